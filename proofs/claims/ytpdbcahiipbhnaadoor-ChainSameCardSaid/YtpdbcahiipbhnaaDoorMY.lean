/- ChainSame: the walk and the law. -/
import Derived.Test.YtpdbcahiipbhnaaDoorMU
import Derived.Test.YtpdbcahiipbhnaaDoorMS
import Derived.Test.YtpdbcahiipbhnaaDoorMH
namespace Go.Proofs.YtpdbcahiipbhnaaDoor
open Go.RowKit

theorem chain_prev {ho y : Int} {l : List Ent} (h : (chkE ho y l).1 = 0) {j : Nat} {p e : Ent} (hp : l[j]? = some p) (he : l[j + 1]? = some e) : e.prev = p.dig := by
  have := wrongE_parts (good_at ho y l 0 0 _ (chkE_good h).2 (j + 1) e he)
  rw [pDig_at l _ j p hp] at this
  exact this.2.2.2.1
theorem same_law {ho y : Int} {l m : List Ent} (hl : (chkE ho y l).1 = 0) (hm : (chkE ho y m).1 = 0) {k : Nat} {e : Ent} (h1 : l[k]? = some e) (h2 : m[k]? = some e)
    (hno : ∀ i, i < k → ∀ a b, l[i]? = some a → m[i]? = some b → eqE a b = true ∨ a.dig ≠ b.dig) : l.take k = m.take k := by
  have key : ∀ j, j ≤ k → ∃ x, l[k - j]? = some x ∧ m[k - j]? = some x := by
    intro j
    induction j with
    | zero => intro _; exact ⟨e, h1, h2⟩
    | succ j ih =>
      intro hj
      obtain ⟨x, hx1, hx2⟩ := ih (by omega)
      have e1 : k - j = k - (j + 1) + 1 := by omega
      rw [e1] at hx1 hx2
      obtain ⟨a, ha⟩ : ∃ a, l[k - (j + 1)]? = some a := ⟨_, List.getElem?_eq_getElem (by have := (List.getElem?_eq_some_iff.1 hx1).1; omega)⟩
      obtain ⟨b, hb⟩ : ∃ b, m[k - (j + 1)]? = some b := ⟨_, List.getElem?_eq_getElem (by have := (List.getElem?_eq_some_iff.1 hx2).1; omega)⟩
      have p1 := chain_prev hl ha hx1
      have p2 := chain_prev hm hb hx2
      rcases hno _ (by omega) a b ha hb with h | h
      · rw [eqE_iff] at h; subst h; exact ⟨a, ha, hb⟩
      · exact absurd (p1.symm.trans p2) h
  apply List.ext_getElem?
  intro i
  by_cases hi : i < k
  · rw [List.getElem?_take, List.getElem?_take, if_pos hi, if_pos hi]
    obtain ⟨x, hx1, hx2⟩ := key (k - i) (by omega)
    rw [show k - (k - i) = i by omega] at hx1 hx2
    rw [hx1, hx2]
  · rw [List.getElem?_take, List.getElem?_take, if_neg hi, if_neg hi]
/-- Two lists of entries lie where they lay; the tables. -/
structure Hold2 (w0 w : World) (ao : Option Addr) (lb lo : Nat) (l : List Ent) (bo : Option Addr) (mb mo : Nat) (m : List Ent) : Prop where
  trk : Trk w0 w
  l : EntsAt w ao lb lo l
  m : EntsAt w bo mb mo m
theorem Hold2.step {w0 w w' : World} {ao : Option Addr} {lb lo : Nat} {l : List Ent} {bo : Option Addr} {mb mo : Nat} {m : List Ent} (h : Hold2 w0 w ao lb lo l bo mb mo m) (hb : Below w.heap.size w w') : Hold2 w0 w' ao lb lo l bo mb mo m :=
  ⟨h.trk.step hb, h.l.step hb, h.m.step hb⟩
set_option maxHeartbeats 2000000 in
set_option maxRecDepth 100000 in
theorem same_few1 (l m : List Ent) (ao bo : Option Addr) (lb lo c mb mo d : Nat) (ho y : Int) (r : Nat) (w : World) (hl : EntsAt w ao lb lo l) (hm : EntsAt w bo mb mo m) (ht : Tabs w) (nl : l.length ≤ 9223372036854775807) (_ : m.length ≤ 9223372036854775807) (f1 : fewE l 14 = false) :
    Calls Tryd.prog 13 #[.slice ao l.length c, .slice bo m.length d, .int .i64 ho, .int .i64 y, .int .u8 (r : Nat)] w fun e w' => e = .returned (.bool true) ∧ Below w.heap.size w w' := by
  have HL := Lib.hid hl
  have HM := Lib.hid hm
  have T0 := Lib.hid (Trk.start ht)
  clear hl hm ht
  go_enter Tryd.func13, Tryd.ntmps13
  go_wp2_with fail
  refine (head31 _ T0.out.tabs).mono ?_
  rintro e v1 ⟨rfl, hb⟩
  have T1 := Lib.hid (T0.out.step hb)
  replace HL := Lib.hid (HL.out.step hb)
  replace HM := Lib.hid (HM.out.step hb)
  clear hb
  go_wp2_with fail
  have hx := Few_any l ao lb lo c 14 v1 nl HL.out
  rw [f1] at hx
  refine hx.mono ?_
  rintro e wx ⟨rfl, rfl⟩
  clear hx
  go_wp2_with fail
  go_ret
  exact ⟨rfl, T1.out.bel⟩
set_option maxHeartbeats 2000000 in
set_option maxRecDepth 100000 in
theorem same_few2 (l m : List Ent) (ao bo : Option Addr) (lb lo c mb mo d : Nat) (ho y : Int) (r : Nat) (w : World) (hl : EntsAt w ao lb lo l) (hm : EntsAt w bo mb mo m) (ht : Tabs w) (nl : l.length ≤ 9223372036854775807) (nm : m.length ≤ 9223372036854775807) (f1 : fewE l 14 = true) (f2 : fewE m 14 = false) :
    Calls Tryd.prog 13 #[.slice ao l.length c, .slice bo m.length d, .int .i64 ho, .int .i64 y, .int .u8 (r : Nat)] w fun e w' => e = .returned (.bool true) ∧ Below w.heap.size w w' := by
  have HL := Lib.hid hl
  have HM := Lib.hid hm
  have T0 := Lib.hid (Trk.start ht)
  clear hl hm ht
  go_enter Tryd.func13, Tryd.ntmps13
  go_wp2_with fail
  refine (head31 _ T0.out.tabs).mono ?_
  rintro e v1 ⟨rfl, hb⟩
  have T1 := Lib.hid (T0.out.step hb)
  replace HL := Lib.hid (HL.out.step hb)
  replace HM := Lib.hid (HM.out.step hb)
  clear hb
  go_wp2_with fail
  have hx := Few_any l ao lb lo c 14 v1 nl HL.out
  rw [f1] at hx
  refine hx.mono ?_
  rintro e wx ⟨rfl, rfl⟩
  clear hx
  go_wp2_with fail
  have hx := Few_any m bo mb mo d 14 v1 nm HM.out
  rw [f2] at hx
  refine hx.mono ?_
  rintro e wx ⟨rfl, rfl⟩
  clear hx
  go_wp2_with fail
  go_ret
  exact ⟨rfl, T1.out.bel⟩
set_option maxHeartbeats 2000000 in
set_option maxRecDepth 100000 in
theorem same_emp1 (l m : List Ent) (ao bo : Option Addr) (lb lo c mb mo d : Nat) (ho y : Int) (r : Nat) (w : World) (hl : EntsAt w ao lb lo l) (hm : EntsAt w bo mb mo m) (ht : Tabs w) (nl : l.length ≤ 9223372036854775807) (nm : m.length ≤ 9223372036854775807) (f1 : fewE l 14 = true) (f2 : fewE m 14 = true) (e1 : l = []) :
    Calls Tryd.prog 13 #[.slice ao l.length c, .slice bo m.length d, .int .i64 ho, .int .i64 y, .int .u8 (r : Nat)] w fun e w' => e = .returned (.bool true) ∧ Below w.heap.size w w' := by
  subst e1
  have HL := Lib.hid hl
  have HM := Lib.hid hm
  have T0 := Lib.hid (Trk.start ht)
  clear hl hm ht
  go_enter Tryd.func13, Tryd.ntmps13
  go_wp2_with fail
  refine (head31 _ T0.out.tabs).mono ?_
  rintro e v1 ⟨rfl, hb⟩
  have T1 := Lib.hid (T0.out.step hb)
  replace HL := Lib.hid (HL.out.step hb)
  replace HM := Lib.hid (HM.out.step hb)
  clear hb
  go_wp2_with fail
  have hx := Few_any [] ao lb lo c 14 v1 nl HL.out
  rw [f1] at hx
  refine hx.mono ?_
  rintro e wx ⟨rfl, rfl⟩
  clear hx
  go_wp2_with fail
  have hx := Few_any m bo mb mo d 14 v1 nm HM.out
  rw [f2] at hx
  refine hx.mono ?_
  rintro e wx ⟨rfl, rfl⟩
  clear hx
  go_wp2_with fail
  go_ret
  exact ⟨rfl, T1.out.bel⟩
set_option maxHeartbeats 2000000 in
set_option maxRecDepth 100000 in
theorem same_emp2 (l m : List Ent) (ao bo : Option Addr) (lb lo c mb mo d : Nat) (ho y : Int) (r : Nat) (w : World) (hl : EntsAt w ao lb lo l) (hm : EntsAt w bo mb mo m) (ht : Tabs w) (nl : l.length ≤ 9223372036854775807) (nm : m.length ≤ 9223372036854775807) (f1 : fewE l 14 = true) (f2 : fewE m 14 = true) (e1 : ¬ l.length = 0) (e2 : m = []) :
    Calls Tryd.prog 13 #[.slice ao l.length c, .slice bo m.length d, .int .i64 ho, .int .i64 y, .int .u8 (r : Nat)] w fun e w' => e = .returned (.bool true) ∧ Below w.heap.size w w' := by
  have q1 : ((l.length : Int) == 0) = false := by have : ¬ (l.length : Int) = 0 := by omega
                                                  simpa using this
  subst e2
  have HL := Lib.hid hl
  have HM := Lib.hid hm
  have T0 := Lib.hid (Trk.start ht)
  clear hl hm ht
  go_enter Tryd.func13, Tryd.ntmps13
  go_wp2_with fail
  refine (head31 _ T0.out.tabs).mono ?_
  rintro e v1 ⟨rfl, hb⟩
  have T1 := Lib.hid (T0.out.step hb)
  replace HL := Lib.hid (HL.out.step hb)
  replace HM := Lib.hid (HM.out.step hb)
  clear hb
  go_wp2_with fail
  have hx := Few_any l ao lb lo c 14 v1 nl HL.out
  rw [f1] at hx
  refine hx.mono ?_
  rintro e wx ⟨rfl, rfl⟩
  clear hx
  go_wp2_with fail
  have hx := Few_any [] bo mb mo d 14 v1 nm HM.out
  rw [f2] at hx
  refine hx.mono ?_
  rintro e wx ⟨rfl, rfl⟩
  clear hx
  go_wp2_with fail
  go_ret
  exact ⟨rfl, T1.out.bel⟩
set_option maxHeartbeats 2000000 in
set_option maxRecDepth 100000 in
theorem same_bad1 (l m : List Ent) (ao bo : Option Addr) (lb lo c mb mo d : Nat) (ho y : Int) (r : Nat) (w : World) (hl : EntsAt w ao lb lo l) (hm : EntsAt w bo mb mo m) (ht : Tabs w) (nl : l.length ≤ 9223372036854775807) (nm : m.length ≤ 9223372036854775807) (f1 : fewE l 14 = true) (f2 : fewE m 14 = true) (g1 : 0 < l.length) (g2 : 0 < m.length) (l14 : l.length ≤ 14) (m14 : m.length ≤ 14) (hr : r < 256) (x1 x2 z1 z2 : Int) (hCL : ∀ w, EntsAt w ao lb lo l → Tabs w → Calls Tryd.prog 38 #[.slice ao l.length c, .int .i64 ho, .int .i64 y] w fun e w' => e = .returned (.tuple #[.int .i64 x1, .int .i64 x2]) ∧ Below w.heap.size w w') (hCM : ∀ w, EntsAt w bo mb mo m → Tabs w → Calls Tryd.prog 38 #[.slice bo m.length d, .int .i64 ho, .int .i64 y] w fun e w' => e = .returned (.tuple #[.int .i64 z1, .int .i64 z2]) ∧ Below w.heap.size w w') (e1 : (x1 == 0) = false) :
    Calls Tryd.prog 13 #[.slice ao l.length c, .slice bo m.length d, .int .i64 ho, .int .i64 y, .int .u8 (r : Nat)] w fun e w' => e = .returned (.bool true) ∧ Below w.heap.size w w' := by
  have e1' : (x1 != 0) = true := by simp only [bne, e1]; rfl
  have CL := Lib.hid hCL
  have CM := Lib.hid hCM
  have q1 : ((l.length : Int) == 0) = false := by have : ¬ (l.length : Int) = 0 := by omega
                                                  simpa using this
  have q2 : ((m.length : Int) == 0) = false := by have : ¬ (m.length : Int) = 0 := by omega
                                                  simpa using this
  have hmin : min (l.length : Int) (m.length : Int) = ((min l.length m.length : Nat) : Int) := by omega
  generalize hqq : min l.length m.length = q at *
  have hq1 : q ≤ l.length := by omega
  have hq2 : q ≤ m.length := by omega
  have hq0 : 0 < q := by omega
  have hq4 : (q : Int) ≤ 14 := by omega
  have hrem : Int.tmod (r : Int) (q : Int) = ((r % q : Nat) : Int) := (Int.ofNat_tmod r q).symm
  have hnz : ((q : Int) == 0) = false := by have : ¬ (q : Int) = 0 := by omega
                                            simpa using this
  have hnq : r % q < q := Nat.mod_lt _ hq0
  generalize r % q = n at *
  have n0 : (0 : Int) ≤ (n : Int) := by omega
  have n1 : (n : Int) < (l.length : Int) := by omega
  have n2 : (n : Int) < (m.length : Int) := by omega
  have n3 : n < l.length := by omega
  have n4 : n < m.length := by omega
  clear hCL hCM hqq
  have HL := Lib.hid hl
  have HM := Lib.hid hm
  have T0 := Lib.hid (Trk.start ht)
  clear hl hm ht
  go_enter Tryd.func13, Tryd.ntmps13
  go_wp2_with fail
  refine (head31 _ T0.out.tabs).mono ?_
  rintro e v1 ⟨rfl, hb⟩
  have T1 := Lib.hid (T0.out.step hb)
  replace HL := Lib.hid (HL.out.step hb)
  replace HM := Lib.hid (HM.out.step hb)
  clear hb
  go_wp2_with fail
  have hx := Few_any l ao lb lo c 14 v1 nl HL.out
  rw [f1] at hx
  refine hx.mono ?_
  rintro e wx ⟨rfl, rfl⟩
  clear hx
  go_wp2_with fail
  have hx := Few_any m bo mb mo d 14 v1 nm HM.out
  rw [f2] at hx
  refine hx.mono ?_
  rintro e wx ⟨rfl, rfl⟩
  clear hx
  go_wp2_with fail
  refine (CL.out _ HL.out T1.out.tabs).mono ?_
  rintro e v2 ⟨rfl, hb⟩
  have T2 := Lib.hid (T1.out.step hb)
  replace HL := Lib.hid (HL.out.step hb)
  replace HM := Lib.hid (HM.out.step hb)
  clear hb
  go_wp2_with fail
  refine (CM.out _ HM.out T2.out.tabs).mono ?_
  rintro e v3 ⟨rfl, hb⟩
  have T3 := Lib.hid (T2.out.step hb)
  replace HL := Lib.hid (HL.out.step hb)
  replace HM := Lib.hid (HM.out.step hb)
  clear hb
  go_wp2_with fail
  go_quiet (fail)
  go_wp2_with fail
  go_ret
  exact ⟨rfl, (T3.out.step (drewN_below _ nq)).bel⟩
set_option maxHeartbeats 2000000 in
set_option maxRecDepth 100000 in
theorem same_bad2 (l m : List Ent) (ao bo : Option Addr) (lb lo c mb mo d : Nat) (ho y : Int) (r : Nat) (w : World) (hl : EntsAt w ao lb lo l) (hm : EntsAt w bo mb mo m) (ht : Tabs w) (nl : l.length ≤ 9223372036854775807) (nm : m.length ≤ 9223372036854775807) (f1 : fewE l 14 = true) (f2 : fewE m 14 = true) (g1 : 0 < l.length) (g2 : 0 < m.length) (l14 : l.length ≤ 14) (m14 : m.length ≤ 14) (hr : r < 256) (x1 x2 z1 z2 : Int) (hCL : ∀ w, EntsAt w ao lb lo l → Tabs w → Calls Tryd.prog 38 #[.slice ao l.length c, .int .i64 ho, .int .i64 y] w fun e w' => e = .returned (.tuple #[.int .i64 x1, .int .i64 x2]) ∧ Below w.heap.size w w') (hCM : ∀ w, EntsAt w bo mb mo m → Tabs w → Calls Tryd.prog 38 #[.slice bo m.length d, .int .i64 ho, .int .i64 y] w fun e w' => e = .returned (.tuple #[.int .i64 z1, .int .i64 z2]) ∧ Below w.heap.size w w') (e1 : (x1 == 0) = true) (e2 : (z1 == 0) = false) :
    Calls Tryd.prog 13 #[.slice ao l.length c, .slice bo m.length d, .int .i64 ho, .int .i64 y, .int .u8 (r : Nat)] w fun e w' => e = .returned (.bool true) ∧ Below w.heap.size w w' := by
  have e1' : (x1 != 0) = false := by simp only [bne, e1]; rfl
  have e2' : (z1 != 0) = true := by simp only [bne, e2]; rfl
  have CL := Lib.hid hCL
  have CM := Lib.hid hCM
  have q1 : ((l.length : Int) == 0) = false := by have : ¬ (l.length : Int) = 0 := by omega
                                                  simpa using this
  have q2 : ((m.length : Int) == 0) = false := by have : ¬ (m.length : Int) = 0 := by omega
                                                  simpa using this
  have hmin : min (l.length : Int) (m.length : Int) = ((min l.length m.length : Nat) : Int) := by omega
  generalize hqq : min l.length m.length = q at *
  have hq1 : q ≤ l.length := by omega
  have hq2 : q ≤ m.length := by omega
  have hq0 : 0 < q := by omega
  have hq4 : (q : Int) ≤ 14 := by omega
  have hrem : Int.tmod (r : Int) (q : Int) = ((r % q : Nat) : Int) := (Int.ofNat_tmod r q).symm
  have hnz : ((q : Int) == 0) = false := by have : ¬ (q : Int) = 0 := by omega
                                            simpa using this
  have hnq : r % q < q := Nat.mod_lt _ hq0
  generalize r % q = n at *
  have n0 : (0 : Int) ≤ (n : Int) := by omega
  have n1 : (n : Int) < (l.length : Int) := by omega
  have n2 : (n : Int) < (m.length : Int) := by omega
  have n3 : n < l.length := by omega
  have n4 : n < m.length := by omega
  clear hCL hCM hqq
  have HL := Lib.hid hl
  have HM := Lib.hid hm
  have T0 := Lib.hid (Trk.start ht)
  clear hl hm ht
  go_enter Tryd.func13, Tryd.ntmps13
  go_wp2_with fail
  refine (head31 _ T0.out.tabs).mono ?_
  rintro e v1 ⟨rfl, hb⟩
  have T1 := Lib.hid (T0.out.step hb)
  replace HL := Lib.hid (HL.out.step hb)
  replace HM := Lib.hid (HM.out.step hb)
  clear hb
  go_wp2_with fail
  have hx := Few_any l ao lb lo c 14 v1 nl HL.out
  rw [f1] at hx
  refine hx.mono ?_
  rintro e wx ⟨rfl, rfl⟩
  clear hx
  go_wp2_with fail
  have hx := Few_any m bo mb mo d 14 v1 nm HM.out
  rw [f2] at hx
  refine hx.mono ?_
  rintro e wx ⟨rfl, rfl⟩
  clear hx
  go_wp2_with fail
  refine (CL.out _ HL.out T1.out.tabs).mono ?_
  rintro e v2 ⟨rfl, hb⟩
  have T2 := Lib.hid (T1.out.step hb)
  replace HL := Lib.hid (HL.out.step hb)
  replace HM := Lib.hid (HM.out.step hb)
  clear hb
  go_wp2_with fail
  refine (CM.out _ HM.out T2.out.tabs).mono ?_
  rintro e v3 ⟨rfl, hb⟩
  have T3 := Lib.hid (T2.out.step hb)
  replace HL := Lib.hid (HL.out.step hb)
  replace HM := Lib.hid (HM.out.step hb)
  clear hb
  go_wp2_with fail
  go_quiet (fail)
  go_wp2_with fail
  go_ret
  exact ⟨rfl, (T3.out.step (drewN_below _ nq)).bel⟩
set_option maxHeartbeats 2000000 in
set_option maxRecDepth 100000 in
theorem same_main (l m : List Ent) (ao bo : Option Addr) (lb lo c mb mo d : Nat) (ho y : Int) (r : Nat) (w : World) (hl : EntsAt w ao lb lo l) (hm : EntsAt w bo mb mo m) (ht : Tabs w) (nl : l.length ≤ 9223372036854775807) (nm : m.length ≤ 9223372036854775807) (f1 : fewE l 14 = true) (f2 : fewE m 14 = true) (g1 : 0 < l.length) (g2 : 0 < m.length) (l14 : l.length ≤ 14) (m14 : m.length ≤ 14) (hr : r < 256) (hCL : ∀ w, EntsAt w ao lb lo l → Tabs w → Calls Tryd.prog 38 #[.slice ao l.length c, .int .i64 ho, .int .i64 y] w fun e w' => e = .returned (.tuple #[.int .i64 0, .int .i64 (-1)]) ∧ Below w.heap.size w w') (hCM : ∀ w, EntsAt w bo mb mo m → Tabs w → Calls Tryd.prog 38 #[.slice bo m.length d, .int .i64 ho, .int .i64 y] w fun e w' => e = .returned (.tuple #[.int .i64 0, .int .i64 (-1)]) ∧ Below w.heap.size w w') (hc : l.length ≤ c) (hd : m.length ≤ d) (ol : ∀ e ∈ l, e.Ok) (om : ∀ e ∈ m, e.Ok) (hS : ∀ k e, l[k]? = some e → m[k]? = some e → (∀ j, j < k → ∀ a b, l[j]? = some a → m[j]? = some b → eqE a b = true ∨ a.dig ≠ b.dig) → l.take k = m.take k) :
    Calls Tryd.prog 13 #[.slice ao l.length c, .slice bo m.length d, .int .i64 ho, .int .i64 y, .int .u8 (r : Nat)] w fun e w' => e = .returned (.bool true) ∧ Below w.heap.size w w' := by
  have CL := Lib.hid hCL
  have CM := Lib.hid hCM
  have q1 : ((l.length : Int) == 0) = false := by have : ¬ (l.length : Int) = 0 := by omega
                                                  simpa using this
  have q2 : ((m.length : Int) == 0) = false := by have : ¬ (m.length : Int) = 0 := by omega
                                                  simpa using this
  have hmin : min (l.length : Int) (m.length : Int) = ((min l.length m.length : Nat) : Int) := by omega
  generalize hqq : min l.length m.length = q at *
  have hq1 : q ≤ l.length := by omega
  have hq2 : q ≤ m.length := by omega
  have hq0 : 0 < q := by omega
  have hq4 : (q : Int) ≤ 14 := by omega
  have hrem : Int.tmod (r : Int) (q : Int) = ((r % q : Nat) : Int) := (Int.ofNat_tmod r q).symm
  have hnz : ((q : Int) == 0) = false := by have : ¬ (q : Int) = 0 := by omega
                                            simpa using this
  have hnq : r % q < q := Nat.mod_lt _ hq0
  generalize r % q = n at *
  have HSL := Lib.hid (hS n)
  have HOL := Lib.hid ol
  have HOM := Lib.hid om
  clear hS ol om
  have n0 : (0 : Int) ≤ (n : Int) := by omega
  have n1 : (n : Int) < (l.length : Int) := by omega
  have n2 : (n : Int) < (m.length : Int) := by omega
  have n3 : n < l.length := by omega
  have n4 : n < m.length := by omega
  clear hCL hCM hqq
  have HL := Lib.hid hl
  have HM := Lib.hid hm
  have T0 := Lib.hid (Trk.start ht)
  clear hl hm ht
  go_enter Tryd.func13, Tryd.ntmps13
  go_wp2_with fail
  refine (head31 _ T0.out.tabs).mono ?_
  rintro e v1 ⟨rfl, hb⟩
  have T1 := Lib.hid (T0.out.step hb)
  replace HL := Lib.hid (HL.out.step hb)
  replace HM := Lib.hid (HM.out.step hb)
  clear hb
  go_wp2_with fail
  have hx := Few_any l ao lb lo c 14 v1 nl HL.out
  rw [f1] at hx
  refine hx.mono ?_
  rintro e wx ⟨rfl, rfl⟩
  clear hx
  go_wp2_with fail
  have hx := Few_any m bo mb mo d 14 v1 nm HM.out
  rw [f2] at hx
  refine hx.mono ?_
  rintro e wx ⟨rfl, rfl⟩
  clear hx
  go_wp2_with fail
  refine (CL.out _ HL.out T1.out.tabs).mono ?_
  rintro e v2 ⟨rfl, hb⟩
  have T2 := Lib.hid (T1.out.step hb)
  replace HL := Lib.hid (HL.out.step hb)
  replace HM := Lib.hid (HM.out.step hb)
  clear hb
  go_wp2_with fail
  refine (CM.out _ HM.out T2.out.tabs).mono ?_
  rintro e v3 ⟨rfl, hb⟩
  have T3 := Lib.hid (T2.out.step hb)
  replace HL := Lib.hid (HL.out.step hb)
  replace HM := Lib.hid (HM.out.step hb)
  clear hb
  obtain ⟨p, hp⟩ : ∃ p, l[n]? = some p := ⟨_, List.getElem?_eq_getElem (by omega)⟩
  obtain ⟨q', hq'⟩ : ∃ p, m[n]? = some p := ⟨_, List.getElem?_eq_getElem (by omega)⟩
  have hqe := run_neq_ent p q'
  have HPQ := Lib.hid (And.intro hp hq')
  obtain ⟨rfl, la⟩ := HL.out.ao (by omega)
  obtain ⟨rfl, lc⟩ := HM.out.ao (by omega)
  obtain ⟨a0, a1, a2, a3, a4, a5, a6⟩ := HL.out.at_ n p hp
  obtain ⟨b0, b1, b2, b3, b4, b5, b6⟩ := HM.out.at_ n q' hq'
  clear hp hq'
  by_cases hne : eqE p q' = true
  rotate_left
  · have hne : eqE p q' = false := by simpa using hne
    rw [hne] at hqe
    clear hne
    go_wp2_with fail
    go_quiet (fail)
    go_wp2_with fail
    go_ret
    exact ⟨rfl, (T3.out.step (drewN_below _ nq)).bel⟩
  rw [hne] at hqe
  rw [eqE_iff] at hne
  go_wp2_with fail
  go_quiet (fail)
  have T4 := Lib.hid (T3.out.step (drewN_below v3 nq))
  replace HL := Lib.hid (HL.out.step (drewN_below v3 nq))
  replace HM := Lib.hid (HM.out.step (drewN_below v3 nq))
  clear a0 a1 a2 a3 a4 a5 a6 b0 b1 b2 b3 b4 b5 b6 hqe T3
  have la : lb < (v3.drewN nq).heap.size := la
  have lc : mb < (v3.drewN nq).heap.size := lc
  generalize v3.drewN nq = v4 at *
  have HNE := Lib.hid hne
  clear hne
  go_wp2_with fail
  go_loopg [17] n (fun gk i wr => ∃ k, k + gk = n ∧ i = .int .i64 (k : Nat) ∧ (∀ j, j < k → ∀ a b, l[j]? = some a → m[j]? = some b → eqE a b = true ∨ a.dig ≠ b.dig) ∧ Trk w wr ∧ Below v4.heap.size v4 wr)
  case atStart => exact ⟨0, by omega, rfl, fun j hj => by omega, T4.out, Below.refl _ _⟩
  case round =>
    obtain ⟨k, hk, rfl, hno, tr, br⟩ := hrel
    have T4 := Lib.hid tr
    have L4 := Lib.hid (HL.out.step br)
    have M4 := Lib.hid (HM.out.step br)
    have B4 := Lib.hid br
    have HNO := Lib.hid hno
    clear tr br hno
    have la : lb < wr.heap.size := Nat.lt_of_lt_of_le la B4.out.size
    have lc : mb < wr.heap.size := Nat.lt_of_lt_of_le lc B4.out.size
    by_cases hlt : k < n
    · obtain ⟨a, ha⟩ : ∃ a, l[k]? = some a := ⟨_, List.getElem?_eq_getElem (by omega)⟩
      obtain ⟨b, hb⟩ : ∃ b, m[k]? = some b := ⟨_, List.getElem?_eq_getElem (by omega)⟩
      have A4 := Lib.hid (L4.out.at_ k a ha)
      have C4 := Lib.hid (M4.out.at_ k b hb)
      have hq := run_neq_ent a b
      have i1 : (0 : Int) ≤ (k : Int) := by omega
      have i2 : (k : Int) < (n : Int) := by omega
      have i3 : k < l.length := by omega
      have i4 : k < m.length := by omega
      have i5 : (k : Int) < (l.length : Int) := by omega
      have i6 : (k : Int) < (m.length : Int) := by omega
      have hnx : (eqE a b = true ∨ a.dig ≠ b.dig) → ∀ j, j < k + 1 → ∀ a b, l[j]? = some a → m[j]? = some b → eqE a b = true ∨ a.dig ≠ b.dig := fun h j hj a' b' ha' hb' => by
        by_cases hjk : j = k
        · subst hjk; rw [ha] at ha'; rw [hb] at hb'; cases ha'; cases hb'; exact h
        · exact HNO.out j (by omega) a' b' ha' hb'
      have HNX := Lib.hid hnx
      have oa := HOL.out a (List.mem_of_getElem? ha)
      have ob := HOM.out b (List.mem_of_getElem? hb)
      clear ha hb hnx
      obtain ⟨a0, a1, a2, a3, a4, a5, a6⟩ := A4.out
      obtain ⟨b0, b1, b2, b3, b4, b5, b6⟩ := C4.out
      rcases he : eqE a b with _ | _
      · rw [he] at hq
        have FA := Lib.hid (fun w ht => RDigest_ent a w oa ht)
        have FB := Lib.hid (fun w ht => RDigest_ent b w ob ht)
        generalize hda : a.dig = da at *
        generalize hdb : b.dig = db at *
        have HDA := Lib.hid hda
        have HDB := Lib.hid hdb
        clear he oa ob hda hdb
        have T5 := T4
        have B5 := B4
        clear A4 C4 L4 M4 T4 B4 HOL HOM HNE HPQ CL CM
        go_wp2_with fail
        generalize wr = w5 at *
        have HINI := Lib.hid (ini_two a0 a1 a2 a3 a4 a5 a6 b0 b1 b2 b3 b4 b5 b6 (Trk.start T5.out.tabs))
        clear a0 a1 a2 a3 a4 a5 a6 b0 b1 b2 b3 b4 b5 b6
        go_region_held_law (fun w' => w'.cell? ⟨lb, lo + k * 7, none⟩ = some (.int .i64 a.house) ∧ w'.cell? ⟨lb, lo + k * 7 + 1, none⟩ = some (.int .i64 a.seq) ∧ w'.cell? ⟨lb, lo + k * 7 + 2, none⟩ = some (.int .i64 a.day) ∧ w'.cell? ⟨lb, lo + k * 7 + 3, none⟩ = some (.string a.prev) ∧ w'.cell? ⟨lb, lo + k * 7 + 4, none⟩ = some (.string a.body) ∧ w'.cell? ⟨lb, lo + k * 7 + 5, none⟩ = some (.int .i64 a.r) ∧ w'.cell? ⟨lb, lo + k * 7 + 6, none⟩ = some (.int .i64 a.s) ∧ w'.cell? ⟨mb, mo + k * 7, none⟩ = some (.int .i64 b.house) ∧ w'.cell? ⟨mb, mo + k * 7 + 1, none⟩ = some (.int .i64 b.seq) ∧ w'.cell? ⟨mb, mo + k * 7 + 2, none⟩ = some (.int .i64 b.day) ∧ w'.cell? ⟨mb, mo + k * 7 + 3, none⟩ = some (.string b.prev) ∧ w'.cell? ⟨mb, mo + k * 7 + 4, none⟩ = some (.string b.body) ∧ w'.cell? ⟨mb, mo + k * 7 + 5, none⟩ = some (.int .i64 b.r) ∧ w'.cell? ⟨mb, mo + k * 7 + 6, none⟩ = some (.int .i64 b.s) ∧ Trk w5 w') (first | (with_reducible assumption) | (with_reducible exact HINI.out) | (with_reducible refine keep_two la lc hba ?_; with_reducible assumption) | (with_reducible refine keep_two la lc hbb ?_; with_reducible assumption) | (refine keep_two la lc (drewN_below _ 1) ?_; first | (with_reducible assumption) | (with_reducible exact HINI.out))) (first | (go_at_call_of 49 (Value.agg #[Value.int IntKind.i64 a.house, Value.int IntKind.i64 a.seq, Value.int IntKind.i64 a.day, Value.string a.prev, Value.string a.body, Value.int IntKind.i64 a.r, Value.int IntKind.i64 a.s]); with_reducible refine (FA.out _ ?TT).mono ?_; (case TT => exact (by first | exact (held_two (by assumption)).tabs | exact T5.out.tabs | exact T5.out.tabs.drew)); rintro e wa ⟨rfl, hba⟩) | (go_at_call_of 49 (Value.agg #[Value.int IntKind.i64 b.house, Value.int IntKind.i64 b.seq, Value.int IntKind.i64 b.day, Value.string b.prev, Value.string b.body, Value.int IntKind.i64 b.r, Value.int IntKind.i64 b.s]); with_reducible refine (FB.out _ ?TT).mono ?_; (case TT => exact (by first | exact (held_two (by assumption)).tabs | exact T5.out.tabs | exact T5.out.tabs.drew)); rintro e wb ⟨rfl, hbb⟩))
        all_goals
          have HFF := Lib.hid (held_two (n0 := lb) (n1 := mb) (o0 := lo + k * 7) (o1 := mo + k * 7) (a := a) (b := b) (w0 := w5) (by assumption))
          go_wp2_with fail
          all_goals first
            | (go_ret; exact ⟨rfl, T5.out.bel.trans (HFF.out.bel.mono T5.out.bel.size)⟩)
            | (rename_i hh
               have hdd : da ≠ db := by

                 intro h
                 rw [h] at hh
                 simp at hh
               go_roundg (gk - 1)
               case measure => omega
               case rel => exact ⟨k + 1, by omega, by go_num, HNX.out (.inr hdd), ⟨HFF.out.tabs, T5.out.bel.trans (HFF.out.bel.mono T5.out.bel.size)⟩, B5.out.trans (HFF.out.bel.mono B5.out.size)⟩)
      · rw [he] at hq
        go_wp2_with fail
        go_quiet (fail)
        go_wp2_with fail
        go_roundg (gk - 1)
        case measure => omega
        case rel => exact ⟨k + 1, by omega, by go_num, HNX.out (.inl he), T4.out.step (drewN_below wr nq), B4.out.trans ((drewN_below wr nq).mono B4.out.size)⟩
    · obtain rfl : k = n := by omega
      have htk := HSL.out p HPQ.out.1 (HNE.out ▸ HPQ.out.2) HNO.out
      have HSM := Lib.hid (fun w (h1 : EntsAt w (some ⟨lb, lo, none⟩) lb lo l) (h2 : EntsAt w (some ⟨mb, mo, none⟩) mb mo m) => Same_yes (l.take k) (some ⟨lb, lo, none⟩) (some ⟨mb, mo, none⟩) lb lo c mb mo d w (by rw [List.length_take]; omega) (h1.take k) (htk ▸ h2.take k))
      have hlk : (l.take k).length = k := by rw [List.length_take]; omega
      rw [hlk] at HSM
      have k1 : (k : Int) ≤ (c : Int) := by omega
      have k2 : (k : Int) ≤ (d : Int) := by omega
      have k3 : k ≤ c := by omega
      have k4 : k ≤ d := by omega
      have H5 := Lib.hid (Hold2.mk (Trk.start T4.out.tabs) L4.out M4.out)
      clear htk HNO HSL HOL HOM HPQ HNE HL HM L4 M4 CL CM
      go_wp2_with fail
      go_region_held_law (fun w' => Hold2 wr w' (some ⟨lb, lo, none⟩) lb lo l (some ⟨mb, mo, none⟩) mb mo m) (first | (with_reducible assumption) | (with_reducible exact H5.out) | (with_reducible refine Hold2.step ?_ hba; with_reducible assumption) | (refine Hold2.step ?_ (drewN_below _ 1); first | (with_reducible assumption) | (with_reducible exact H5.out))) ((go_at_call 42; with_reducible refine (HSM.out _ ?TA ?TB).mono ?_; (case TA => first | exact (Hold2.l (by assumption)) | exact H5.out.l | exact (H5.out.step (drewN_below _ 1)).l); (case TB => first | exact (Hold2.m (by assumption)) | exact H5.out.m | exact (H5.out.step (drewN_below _ 1)).m); rintro e wa ⟨rfl, hba⟩))
      all_goals
        have HFF := Lib.hid (Hold2.trk (w0 := wr) (ao := (some ⟨lb, lo, none⟩)) (lb := lb) (lo := lo) (l := l) (bo := some ⟨mb, mo, none⟩) (mb := mb) (mo := mo) (m := m) (by assumption))
        go_wp2_with fail
        go_ret
        exact ⟨rfl, T4.out.bel.trans (HFF.out.bel.mono T4.out.bel.size)⟩
theorem law_ChainSame (l : List Ent) (ao : Option Addr) (lb lo c : Nat) (m : List Ent) (bo : Option Addr) (mb mo d : Nat) (ho y r : Int) (w : World) (hl : EntsAt w ao lb lo l) (il : ∀ e ∈ l, e.I) (nl : l.length ≤ 9223372036854775807) (hc : l.length ≤ c) (hm : EntsAt w bo mb mo m) (im : ∀ e ∈ m, e.I) (nm : m.length ≤ 9223372036854775807) (hd : m.length ≤ d) (_ : (Lit.int .i64 ho).wf = true) (_ : (Lit.int .i64 y).wf = true) (wr : (Lit.int .u8 r).wf = true) (ht : Tabs w) :
    Calls Tryd.prog 13 #[.slice ao l.length c, .slice bo m.length d, .int .i64 ho, .int .i64 y, .int .u8 r] w fun e w' => e = .returned (.bool true) ∧ Below w.heap.size w w' := by
  have wr' : 0 ≤ r ∧ r ≤ 255 := by simp only [Lit.wf, Bool.and_eq_true, decide_eq_true_eq] at wr; exact wr
  obtain ⟨r, rfl⟩ := Int.eq_ofNat_of_zero_le wr'.1
  rcases f1 : fewE l 14 with _ | _
  · exact same_few1 l m ao bo lb lo c mb mo d ho y r w hl hm ht nl nm f1
  rcases f2 : fewE m 14 with _ | _
  · exact same_few2 l m ao bo lb lo c mb mo d ho y r w hl hm ht nl nm f1 f2
  have l1 := few_len f1
  have l2 := few_len f2
  have ol := few_ok f1 il
  have om := few_ok f2 im
  by_cases g1 : l.length = 0
  · exact same_emp1 l m ao bo lb lo c mb mo d ho y r w hl hm ht nl nm f1 f2 (List.eq_nil_of_length_eq_zero g1)
  by_cases g2 : m.length = 0
  · exact same_emp2 l m ao bo lb lo c mb mo d ho y r w hl hm ht nl nm f1 f2 g1 (List.eq_nil_of_length_eq_zero g2)
  have hCL := fun w h ht => Check_any ho y l ao lb lo c w (by omega) ol h ht
  have hCM := fun w h ht => Check_any ho y m bo mb mo d w (by omega) om h ht
  by_cases k1 : (chkE ho y l).1 = 0
  · by_cases k2 : (chkE ho y m).1 = 0
    · have e1 := chkE_good k1
      have e2 := chkE_good k2
      rw [chkE_of e1.1 e1.2] at hCL
      rw [chkE_of e2.1 e2.2] at hCM
      exact same_main l m ao bo lb lo c mb mo d ho y r w hl hm ht nl nm f1 f2 (by omega) (by omega) (by omega) (by omega) (by omega) hCL hCM hc hd ol om (fun k e h1 h2 hno => same_law k1 k2 h1 h2 hno)
    · exact same_bad2 l m ao bo lb lo c mb mo d ho y r w hl hm ht nl nm f1 f2 (by omega) (by omega) (by omega) (by omega) (by omega) _ _ _ _ hCL hCM (by rw [k1]; rfl) (by simpa using k2)
  · exact same_bad1 l m ao bo lb lo c mb mo d ho y r w hl hm ht nl nm f1 f2 (by omega) (by omega) (by omega) (by omega) (by omega) _ _ _ _ hCL hCM (by simpa using k1)
end Go.Proofs.YtpdbcahiipbhnaaDoor
