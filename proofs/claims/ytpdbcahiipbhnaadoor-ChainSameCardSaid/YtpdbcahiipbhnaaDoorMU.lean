/- ChainForks: the walk and the law. -/
import Derived.Test.YtpdbcahiipbhnaaDoorMQ
import Derived.Deep.QuietTactic
namespace Go.Proofs.YtpdbcahiipbhnaaDoor
open Go.RowKit

theorem keep_two {w0 w w' : World} {n0 n1 : Nat} {o0 o1 : Nat} {a b : Ent} (l0 : n0 < w0.heap.size) (l1 : n1 < w0.heap.size) (hb : Below w.heap.size w w') (H : w.cell? ⟨n0, o0, none⟩ = some (.int .i64 a.house) ∧ w.cell? ⟨n0, o0 + 1, none⟩ = some (.int .i64 a.seq) ∧ w.cell? ⟨n0, o0 + 2, none⟩ = some (.int .i64 a.day) ∧ w.cell? ⟨n0, o0 + 3, none⟩ = some (.string a.prev) ∧ w.cell? ⟨n0, o0 + 4, none⟩ = some (.string a.body) ∧ w.cell? ⟨n0, o0 + 5, none⟩ = some (.int .i64 a.r) ∧ w.cell? ⟨n0, o0 + 6, none⟩ = some (.int .i64 a.s) ∧ w.cell? ⟨n1, o1, none⟩ = some (.int .i64 b.house) ∧ w.cell? ⟨n1, o1 + 1, none⟩ = some (.int .i64 b.seq) ∧ w.cell? ⟨n1, o1 + 2, none⟩ = some (.int .i64 b.day) ∧ w.cell? ⟨n1, o1 + 3, none⟩ = some (.string b.prev) ∧ w.cell? ⟨n1, o1 + 4, none⟩ = some (.string b.body) ∧ w.cell? ⟨n1, o1 + 5, none⟩ = some (.int .i64 b.r) ∧ w.cell? ⟨n1, o1 + 6, none⟩ = some (.int .i64 b.s) ∧ Trk w0 w) : w'.cell? ⟨n0, o0, none⟩ = some (.int .i64 a.house) ∧ w'.cell? ⟨n0, o0 + 1, none⟩ = some (.int .i64 a.seq) ∧ w'.cell? ⟨n0, o0 + 2, none⟩ = some (.int .i64 a.day) ∧ w'.cell? ⟨n0, o0 + 3, none⟩ = some (.string a.prev) ∧ w'.cell? ⟨n0, o0 + 4, none⟩ = some (.string a.body) ∧ w'.cell? ⟨n0, o0 + 5, none⟩ = some (.int .i64 a.r) ∧ w'.cell? ⟨n0, o0 + 6, none⟩ = some (.int .i64 a.s) ∧ w'.cell? ⟨n1, o1, none⟩ = some (.int .i64 b.house) ∧ w'.cell? ⟨n1, o1 + 1, none⟩ = some (.int .i64 b.seq) ∧ w'.cell? ⟨n1, o1 + 2, none⟩ = some (.int .i64 b.day) ∧ w'.cell? ⟨n1, o1 + 3, none⟩ = some (.string b.prev) ∧ w'.cell? ⟨n1, o1 + 4, none⟩ = some (.string b.body) ∧ w'.cell? ⟨n1, o1 + 5, none⟩ = some (.int .i64 b.r) ∧ w'.cell? ⟨n1, o1 + 6, none⟩ = some (.int .i64 b.s) ∧ Trk w0 w' :=
  ⟨(hb.cell (p := ⟨n0, o0, none⟩) (Nat.lt_of_lt_of_le l0 H.2.2.2.2.2.2.2.2.2.2.2.2.2.2.bel.size)).trans H.1, (hb.cell (p := ⟨n0, o0 + 1, none⟩) (Nat.lt_of_lt_of_le l0 H.2.2.2.2.2.2.2.2.2.2.2.2.2.2.bel.size)).trans H.2.1, (hb.cell (p := ⟨n0, o0 + 2, none⟩) (Nat.lt_of_lt_of_le l0 H.2.2.2.2.2.2.2.2.2.2.2.2.2.2.bel.size)).trans H.2.2.1, (hb.cell (p := ⟨n0, o0 + 3, none⟩) (Nat.lt_of_lt_of_le l0 H.2.2.2.2.2.2.2.2.2.2.2.2.2.2.bel.size)).trans H.2.2.2.1, (hb.cell (p := ⟨n0, o0 + 4, none⟩) (Nat.lt_of_lt_of_le l0 H.2.2.2.2.2.2.2.2.2.2.2.2.2.2.bel.size)).trans H.2.2.2.2.1, (hb.cell (p := ⟨n0, o0 + 5, none⟩) (Nat.lt_of_lt_of_le l0 H.2.2.2.2.2.2.2.2.2.2.2.2.2.2.bel.size)).trans H.2.2.2.2.2.1, (hb.cell (p := ⟨n0, o0 + 6, none⟩) (Nat.lt_of_lt_of_le l0 H.2.2.2.2.2.2.2.2.2.2.2.2.2.2.bel.size)).trans H.2.2.2.2.2.2.1, (hb.cell (p := ⟨n1, o1, none⟩) (Nat.lt_of_lt_of_le l1 H.2.2.2.2.2.2.2.2.2.2.2.2.2.2.bel.size)).trans H.2.2.2.2.2.2.2.1, (hb.cell (p := ⟨n1, o1 + 1, none⟩) (Nat.lt_of_lt_of_le l1 H.2.2.2.2.2.2.2.2.2.2.2.2.2.2.bel.size)).trans H.2.2.2.2.2.2.2.2.1, (hb.cell (p := ⟨n1, o1 + 2, none⟩) (Nat.lt_of_lt_of_le l1 H.2.2.2.2.2.2.2.2.2.2.2.2.2.2.bel.size)).trans H.2.2.2.2.2.2.2.2.2.1, (hb.cell (p := ⟨n1, o1 + 3, none⟩) (Nat.lt_of_lt_of_le l1 H.2.2.2.2.2.2.2.2.2.2.2.2.2.2.bel.size)).trans H.2.2.2.2.2.2.2.2.2.2.1, (hb.cell (p := ⟨n1, o1 + 4, none⟩) (Nat.lt_of_lt_of_le l1 H.2.2.2.2.2.2.2.2.2.2.2.2.2.2.bel.size)).trans H.2.2.2.2.2.2.2.2.2.2.2.1, (hb.cell (p := ⟨n1, o1 + 5, none⟩) (Nat.lt_of_lt_of_le l1 H.2.2.2.2.2.2.2.2.2.2.2.2.2.2.bel.size)).trans H.2.2.2.2.2.2.2.2.2.2.2.2.1, (hb.cell (p := ⟨n1, o1 + 6, none⟩) (Nat.lt_of_lt_of_le l1 H.2.2.2.2.2.2.2.2.2.2.2.2.2.2.bel.size)).trans H.2.2.2.2.2.2.2.2.2.2.2.2.2.1, H.2.2.2.2.2.2.2.2.2.2.2.2.2.2.step hb⟩
theorem held_two {w0 w : World} {n0 n1 : Nat} {o0 o1 : Nat} {a b : Ent} (H : w.cell? ⟨n0, o0, none⟩ = some (.int .i64 a.house) ∧ w.cell? ⟨n0, o0 + 1, none⟩ = some (.int .i64 a.seq) ∧ w.cell? ⟨n0, o0 + 2, none⟩ = some (.int .i64 a.day) ∧ w.cell? ⟨n0, o0 + 3, none⟩ = some (.string a.prev) ∧ w.cell? ⟨n0, o0 + 4, none⟩ = some (.string a.body) ∧ w.cell? ⟨n0, o0 + 5, none⟩ = some (.int .i64 a.r) ∧ w.cell? ⟨n0, o0 + 6, none⟩ = some (.int .i64 a.s) ∧ w.cell? ⟨n1, o1, none⟩ = some (.int .i64 b.house) ∧ w.cell? ⟨n1, o1 + 1, none⟩ = some (.int .i64 b.seq) ∧ w.cell? ⟨n1, o1 + 2, none⟩ = some (.int .i64 b.day) ∧ w.cell? ⟨n1, o1 + 3, none⟩ = some (.string b.prev) ∧ w.cell? ⟨n1, o1 + 4, none⟩ = some (.string b.body) ∧ w.cell? ⟨n1, o1 + 5, none⟩ = some (.int .i64 b.r) ∧ w.cell? ⟨n1, o1 + 6, none⟩ = some (.int .i64 b.s) ∧ Trk w0 w) : Trk w0 w := H.2.2.2.2.2.2.2.2.2.2.2.2.2.2
theorem ini_two {w0 w : World} {n0 n1 : Nat} {o0 o1 : Nat} {a b : Ent} (h0 : w.cell? ⟨n0, o0, none⟩ = some (.int .i64 a.house)) (h1 : w.cell? ⟨n0, o0 + 1, none⟩ = some (.int .i64 a.seq)) (h2 : w.cell? ⟨n0, o0 + 2, none⟩ = some (.int .i64 a.day)) (h3 : w.cell? ⟨n0, o0 + 3, none⟩ = some (.string a.prev)) (h4 : w.cell? ⟨n0, o0 + 4, none⟩ = some (.string a.body)) (h5 : w.cell? ⟨n0, o0 + 5, none⟩ = some (.int .i64 a.r)) (h6 : w.cell? ⟨n0, o0 + 6, none⟩ = some (.int .i64 a.s)) (h7 : w.cell? ⟨n1, o1, none⟩ = some (.int .i64 b.house)) (h8 : w.cell? ⟨n1, o1 + 1, none⟩ = some (.int .i64 b.seq)) (h9 : w.cell? ⟨n1, o1 + 2, none⟩ = some (.int .i64 b.day)) (h10 : w.cell? ⟨n1, o1 + 3, none⟩ = some (.string b.prev)) (h11 : w.cell? ⟨n1, o1 + 4, none⟩ = some (.string b.body)) (h12 : w.cell? ⟨n1, o1 + 5, none⟩ = some (.int .i64 b.r)) (h13 : w.cell? ⟨n1, o1 + 6, none⟩ = some (.int .i64 b.s)) (ht : Trk w0 w) : w.cell? ⟨n0, o0, none⟩ = some (.int .i64 a.house) ∧ w.cell? ⟨n0, o0 + 1, none⟩ = some (.int .i64 a.seq) ∧ w.cell? ⟨n0, o0 + 2, none⟩ = some (.int .i64 a.day) ∧ w.cell? ⟨n0, o0 + 3, none⟩ = some (.string a.prev) ∧ w.cell? ⟨n0, o0 + 4, none⟩ = some (.string a.body) ∧ w.cell? ⟨n0, o0 + 5, none⟩ = some (.int .i64 a.r) ∧ w.cell? ⟨n0, o0 + 6, none⟩ = some (.int .i64 a.s) ∧ w.cell? ⟨n1, o1, none⟩ = some (.int .i64 b.house) ∧ w.cell? ⟨n1, o1 + 1, none⟩ = some (.int .i64 b.seq) ∧ w.cell? ⟨n1, o1 + 2, none⟩ = some (.int .i64 b.day) ∧ w.cell? ⟨n1, o1 + 3, none⟩ = some (.string b.prev) ∧ w.cell? ⟨n1, o1 + 4, none⟩ = some (.string b.body) ∧ w.cell? ⟨n1, o1 + 5, none⟩ = some (.int .i64 b.r) ∧ w.cell? ⟨n1, o1 + 6, none⟩ = some (.int .i64 b.s) ∧ Trk w0 w :=
  ⟨h0, h1, h2, h3, h4, h5, h6, h7, h8, h9, h10, h11, h12, h13, ht⟩

set_option maxHeartbeats 2000000 in
set_option maxRecDepth 100000 in
theorem forks_few1 (l m : List Ent) (ao bo : Option Addr) (lb lo c mb mo d : Nat) (ho y : Int) (w : World) (hl : EntsAt w ao lb lo l) (hm : EntsAt w bo mb mo m) (ht : Tabs w) (nl : l.length ≤ 9223372036854775807) (f1 : fewE l 14 = false) :
    Calls Tryd.prog 14 #[.slice ao l.length c, .slice bo m.length d, .int .i64 ho, .int .i64 y] w fun e w' => e = .returned (.bool true) ∧ Below w.heap.size w w' := by
  have HL := Lib.hid hl
  have HM := Lib.hid hm
  have T0 := Lib.hid (Trk.start ht)
  clear hl hm ht
  go_enter Tryd.func14, Tryd.ntmps14
  go_wp2_with fail
  refine (head31 _ T0.out.tabs).mono ?_
  rintro e v1 ⟨rfl, hb⟩
  have T1 := Lib.hid (T0.out.step hb)
  replace HL := Lib.hid (HL.out.step hb)
  replace HM := Lib.hid (HM.out.step hb)
  clear hb
  go_wp2_with fail
  have hx := Few_any l ao lb lo c 14 v1 nl HL.out
  rw [f1] at hx
  refine hx.mono ?_
  rintro e wx ⟨rfl, rfl⟩
  clear hx
  go_wp2_with fail
  go_ret
  exact ⟨rfl, T1.out.bel⟩
set_option maxHeartbeats 2000000 in
set_option maxRecDepth 100000 in
theorem forks_few2 (l m : List Ent) (ao bo : Option Addr) (lb lo c mb mo d : Nat) (ho y : Int) (w : World) (hl : EntsAt w ao lb lo l) (hm : EntsAt w bo mb mo m) (ht : Tabs w) (nl : l.length ≤ 9223372036854775807) (nm : m.length ≤ 9223372036854775807) (f1 : fewE l 14 = true) (f2 : fewE m 14 = false) :
    Calls Tryd.prog 14 #[.slice ao l.length c, .slice bo m.length d, .int .i64 ho, .int .i64 y] w fun e w' => e = .returned (.bool true) ∧ Below w.heap.size w w' := by
  have HL := Lib.hid hl
  have HM := Lib.hid hm
  have T0 := Lib.hid (Trk.start ht)
  clear hl hm ht
  go_enter Tryd.func14, Tryd.ntmps14
  go_wp2_with fail
  refine (head31 _ T0.out.tabs).mono ?_
  rintro e v1 ⟨rfl, hb⟩
  have T1 := Lib.hid (T0.out.step hb)
  replace HL := Lib.hid (HL.out.step hb)
  replace HM := Lib.hid (HM.out.step hb)
  clear hb
  go_wp2_with fail
  have hx := Few_any l ao lb lo c 14 v1 nl HL.out
  rw [f1] at hx
  refine hx.mono ?_
  rintro e wx ⟨rfl, rfl⟩
  clear hx
  go_wp2_with fail
  have hx := Few_any m bo mb mo d 14 v1 nm HM.out
  rw [f2] at hx
  refine hx.mono ?_
  rintro e wx ⟨rfl, rfl⟩
  clear hx
  go_wp2_with fail
  go_ret
  exact ⟨rfl, T1.out.bel⟩
set_option maxHeartbeats 2000000 in
set_option maxRecDepth 100000 in
theorem forks_bad1 (l m : List Ent) (ao bo : Option Addr) (lb lo c mb mo d : Nat) (ho y : Int) (w : World) (hl : EntsAt w ao lb lo l) (hm : EntsAt w bo mb mo m) (ht : Tabs w) (nl : l.length ≤ 9223372036854775807) (nm : m.length ≤ 9223372036854775807) (f1 : fewE l 14 = true) (f2 : fewE m 14 = true) (x1 x2 z1 z2 : Int) (hCL : ∀ w, EntsAt w ao lb lo l → Tabs w → Calls Tryd.prog 38 #[.slice ao l.length c, .int .i64 ho, .int .i64 y] w fun e w' => e = .returned (.tuple #[.int .i64 x1, .int .i64 x2]) ∧ Below w.heap.size w w') (hCM : ∀ w, EntsAt w bo mb mo m → Tabs w → Calls Tryd.prog 38 #[.slice bo m.length d, .int .i64 ho, .int .i64 y] w fun e w' => e = .returned (.tuple #[.int .i64 z1, .int .i64 z2]) ∧ Below w.heap.size w w') (e1 : (x1 == 0) = false) :
    Calls Tryd.prog 14 #[.slice ao l.length c, .slice bo m.length d, .int .i64 ho, .int .i64 y] w fun e w' => e = .returned (.bool true) ∧ Below w.heap.size w w' := by
  have CL := Lib.hid hCL
  have CM := Lib.hid hCM
  clear hCL hCM
  have e1' : (x1 != 0) = true := by simp only [bne, e1]; rfl
  have HL := Lib.hid hl
  have HM := Lib.hid hm
  have T0 := Lib.hid (Trk.start ht)
  clear hl hm ht
  go_enter Tryd.func14, Tryd.ntmps14
  go_wp2_with fail
  refine (head31 _ T0.out.tabs).mono ?_
  rintro e v1 ⟨rfl, hb⟩
  have T1 := Lib.hid (T0.out.step hb)
  replace HL := Lib.hid (HL.out.step hb)
  replace HM := Lib.hid (HM.out.step hb)
  clear hb
  go_wp2_with fail
  have hx := Few_any l ao lb lo c 14 v1 nl HL.out
  rw [f1] at hx
  refine hx.mono ?_
  rintro e wx ⟨rfl, rfl⟩
  clear hx
  go_wp2_with fail
  have hx := Few_any m bo mb mo d 14 v1 nm HM.out
  rw [f2] at hx
  refine hx.mono ?_
  rintro e wx ⟨rfl, rfl⟩
  clear hx
  go_wp2_with fail
  refine (CL.out _ HL.out T1.out.tabs).mono ?_
  rintro e v2 ⟨rfl, hb⟩
  have T2 := Lib.hid (T1.out.step hb)
  replace HL := Lib.hid (HL.out.step hb)
  replace HM := Lib.hid (HM.out.step hb)
  clear hb
  go_wp2_with fail
  refine (CM.out _ HM.out T2.out.tabs).mono ?_
  rintro e v3 ⟨rfl, hb⟩
  have T3 := Lib.hid (T2.out.step hb)
  replace HL := Lib.hid (HL.out.step hb)
  replace HM := Lib.hid (HM.out.step hb)
  clear hb
  go_wp2_with fail
  go_ret
  exact ⟨rfl, T3.out.bel⟩
set_option maxHeartbeats 2000000 in
set_option maxRecDepth 100000 in
theorem forks_bad2 (l m : List Ent) (ao bo : Option Addr) (lb lo c mb mo d : Nat) (ho y : Int) (w : World) (hl : EntsAt w ao lb lo l) (hm : EntsAt w bo mb mo m) (ht : Tabs w) (nl : l.length ≤ 9223372036854775807) (nm : m.length ≤ 9223372036854775807) (f1 : fewE l 14 = true) (f2 : fewE m 14 = true) (x1 x2 z1 z2 : Int) (hCL : ∀ w, EntsAt w ao lb lo l → Tabs w → Calls Tryd.prog 38 #[.slice ao l.length c, .int .i64 ho, .int .i64 y] w fun e w' => e = .returned (.tuple #[.int .i64 x1, .int .i64 x2]) ∧ Below w.heap.size w w') (hCM : ∀ w, EntsAt w bo mb mo m → Tabs w → Calls Tryd.prog 38 #[.slice bo m.length d, .int .i64 ho, .int .i64 y] w fun e w' => e = .returned (.tuple #[.int .i64 z1, .int .i64 z2]) ∧ Below w.heap.size w w') (e1 : (x1 == 0) = true) (e2 : (z1 == 0) = false) :
    Calls Tryd.prog 14 #[.slice ao l.length c, .slice bo m.length d, .int .i64 ho, .int .i64 y] w fun e w' => e = .returned (.bool true) ∧ Below w.heap.size w w' := by
  have CL := Lib.hid hCL
  have CM := Lib.hid hCM
  clear hCL hCM
  have e1' : (x1 != 0) = false := by simp only [bne, e1]; rfl
  have e2' : (z1 != 0) = true := by simp only [bne, e2]; rfl
  have HL := Lib.hid hl
  have HM := Lib.hid hm
  have T0 := Lib.hid (Trk.start ht)
  clear hl hm ht
  go_enter Tryd.func14, Tryd.ntmps14
  go_wp2_with fail
  refine (head31 _ T0.out.tabs).mono ?_
  rintro e v1 ⟨rfl, hb⟩
  have T1 := Lib.hid (T0.out.step hb)
  replace HL := Lib.hid (HL.out.step hb)
  replace HM := Lib.hid (HM.out.step hb)
  clear hb
  go_wp2_with fail
  have hx := Few_any l ao lb lo c 14 v1 nl HL.out
  rw [f1] at hx
  refine hx.mono ?_
  rintro e wx ⟨rfl, rfl⟩
  clear hx
  go_wp2_with fail
  have hx := Few_any m bo mb mo d 14 v1 nm HM.out
  rw [f2] at hx
  refine hx.mono ?_
  rintro e wx ⟨rfl, rfl⟩
  clear hx
  go_wp2_with fail
  refine (CL.out _ HL.out T1.out.tabs).mono ?_
  rintro e v2 ⟨rfl, hb⟩
  have T2 := Lib.hid (T1.out.step hb)
  replace HL := Lib.hid (HL.out.step hb)
  replace HM := Lib.hid (HM.out.step hb)
  clear hb
  go_wp2_with fail
  refine (CM.out _ HM.out T2.out.tabs).mono ?_
  rintro e v3 ⟨rfl, hb⟩
  have T3 := Lib.hid (T2.out.step hb)
  replace HL := Lib.hid (HL.out.step hb)
  replace HM := Lib.hid (HM.out.step hb)
  clear hb
  go_wp2_with fail
  go_ret
  exact ⟨rfl, T3.out.bel⟩
set_option maxHeartbeats 1600000 in
set_option maxRecDepth 100000 in
theorem forks_main (l m : List Ent) (ao bo : Option Addr) (lb lo c mb mo d : Nat) (ho y : Int) (w : World) (hl : EntsAt w ao lb lo l) (hm : EntsAt w bo mb mo m) (ht : Tabs w) (f1 : fewE l 14 = true) (f2 : fewE m 14 = true) (hCL : ∀ w, EntsAt w ao lb lo l → Tabs w → Calls Tryd.prog 38 #[.slice ao l.length c, .int .i64 ho, .int .i64 y] w fun e w' => e = .returned (.tuple #[.int .i64 0, .int .i64 (-1)]) ∧ Below w.heap.size w w') (hCM : ∀ w, EntsAt w bo mb mo m → Tabs w → Calls Tryd.prog 38 #[.slice bo m.length d, .int .i64 ho, .int .i64 y] w fun e w' => e = .returned (.tuple #[.int .i64 0, .int .i64 (-1)]) ∧ Below w.heap.size w w') (n : Nat) (hn1 : n ≤ l.length) (hn2 : n ≤ m.length) (hn3 : l.length ≤ 14) (hn4 : m.length ≤ 14) (hmin : min (l.length : Int) (m.length : Int) = (n : Int))
    (hF : ∀ (j : Nat) a b, l[j]? = some a → m[j]? = some b → eqE a b = false → a.Ok ∧ b.Ok ∧ frkE y a b = true ∧ frkE y b a = true) :
    Calls Tryd.prog 14 #[.slice ao l.length c, .slice bo m.length d, .int .i64 ho, .int .i64 y] w fun e w' => e = .returned (.bool true) ∧ Below w.heap.size w w' := by
  have nl : l.length ≤ 9223372036854775807 := by omega
  have nm : m.length ≤ 9223372036854775807 := by omega
  have HFK := Lib.hid hF
  have HMIN := Lib.hid hmin
  clear hF hmin
  have CL := Lib.hid hCL
  have CM := Lib.hid hCM
  clear hCL hCM
  have HL := Lib.hid hl
  have HM := Lib.hid hm
  have T0 := Lib.hid (Trk.start ht)
  clear hl hm ht
  go_enter Tryd.func14, Tryd.ntmps14
  go_wp2_with fail
  refine (head31 _ T0.out.tabs).mono ?_
  rintro e v1 ⟨rfl, hb⟩
  have T1 := Lib.hid (T0.out.step hb)
  replace HL := Lib.hid (HL.out.step hb)
  replace HM := Lib.hid (HM.out.step hb)
  clear hb
  go_wp2_with fail
  have hx := Few_any l ao lb lo c 14 v1 nl HL.out
  rw [f1] at hx
  refine hx.mono ?_
  rintro e wx ⟨rfl, rfl⟩
  clear hx
  go_wp2_with fail
  have hx := Few_any m bo mb mo d 14 v1 nm HM.out
  rw [f2] at hx
  refine hx.mono ?_
  rintro e wx ⟨rfl, rfl⟩
  clear hx
  go_wp2_with fail
  refine (CL.out _ HL.out T1.out.tabs).mono ?_
  rintro e v2 ⟨rfl, hb⟩
  have T2 := Lib.hid (T1.out.step hb)
  replace HL := Lib.hid (HL.out.step hb)
  replace HM := Lib.hid (HM.out.step hb)
  clear hb
  go_wp2_with fail
  refine (CM.out _ HM.out T2.out.tabs).mono ?_
  rintro e v3 ⟨rfl, hb⟩
  have T3 := Lib.hid (T2.out.step hb)
  replace HL := Lib.hid (HL.out.step hb)
  replace HM := Lib.hid (HM.out.step hb)
  clear hb
  go_wp2_with fail
  go_loopg [14] n (fun gk i wr => ∃ k, k + gk = n ∧ i = .int .i64 (k : Nat) ∧ Trk w wr ∧ Below v3.heap.size v3 wr)
  case atStart => exact ⟨0, by omega, rfl, T3.out, Below.refl _ _⟩
  case round =>
    obtain ⟨k, hk, rfl, tr, br⟩ := hrel
    have T4 := Lib.hid tr
    have L4 := Lib.hid (HL.out.step br)
    have M4 := Lib.hid (HM.out.step br)
    have B4 := Lib.hid br
    clear tr br
    have hmin := HMIN.out
    by_cases hlt : k < n
    · obtain ⟨a, ha⟩ : ∃ a, l[k]? = some a := ⟨_, List.getElem?_eq_getElem (by omega)⟩
      obtain ⟨b, hb⟩ : ∃ b, m[k]? = some b := ⟨_, List.getElem?_eq_getElem (by omega)⟩
      obtain ⟨rfl, la⟩ := L4.out.ao (by omega)
      obtain ⟨rfl, lc⟩ := M4.out.ao (by omega)
      have A4 := Lib.hid (L4.out.at_ k a ha)
      have C4 := Lib.hid (M4.out.at_ k b hb)
      have HA := Lib.hid ha
      have HB := Lib.hid hb
      have hq := run_neq_ent a b
      have i1 : (0 : Int) ≤ (k : Int) := by omega
      have i2 : (k : Int) < (n : Int) := by omega
      have i3 : k < l.length := by omega
      have i4 : k < m.length := by omega
      have i5 : (k : Int) < (l.length : Int) := by omega
      have i6 : (k : Int) < (m.length : Int) := by omega
      clear ha hb
      obtain ⟨a0, a1, a2, a3, a4, a5, a6⟩ := A4.out
      obtain ⟨b0, b1, b2, b3, b4, b5, b6⟩ := C4.out
      rcases he : eqE a b with _ | _
      · rw [he] at hq
        obtain ⟨oa, ob, fa, fb⟩ := HFK.out k a b HA.out HB.out he
        have FA := Lib.hid (fun w ht => Fork_any a b y w oa ob ht)
        have FB := Lib.hid (fun w ht => Fork_any b a y w ob oa ht)
        rw [fa] at FA
        rw [fb] at FB
        clear he oa ob fa fb
        go_wp2_with fail
        go_quiet (fail)
        go_wp2_with fail
        have T5 := Lib.hid (T4.out.step (drewN_below wr nq))
        have la : lb < (wr.drewN nq).heap.size := la
        have lc : mb < (wr.drewN nq).heap.size := lc
        have A5 : Hid (AtE (wr.drewN nq) lb (lo + k * 7) a) := Lib.hid A4.out
        have C5 : Hid (AtE (wr.drewN nq) mb (mo + k * 7) b) := Lib.hid C4.out
        clear a0 a1 a2 a3 a4 a5 a6 b0 b1 b2 b3 b4 b5 b6 hq L4 M4 A4 C4 B4
        generalize wr.drewN nq = w5 at *
        clear HFK HMIN HL HM CL CM HA HB hmin
        obtain ⟨a0, a1, a2, a3, a4, a5, a6⟩ := A5.out
        obtain ⟨b0, b1, b2, b3, b4, b5, b6⟩ := C5.out
        have HINI := Lib.hid (ini_two a0 a1 a2 a3 a4 a5 a6 b0 b1 b2 b3 b4 b5 b6 (Trk.start T5.out.tabs))
        clear a0 a1 a2 a3 a4 a5 a6 b0 b1 b2 b3 b4 b5 b6
        go_region_held_law (fun w' => w'.cell? ⟨lb, lo + k * 7, none⟩ = some (.int .i64 a.house) ∧ w'.cell? ⟨lb, lo + k * 7 + 1, none⟩ = some (.int .i64 a.seq) ∧ w'.cell? ⟨lb, lo + k * 7 + 2, none⟩ = some (.int .i64 a.day) ∧ w'.cell? ⟨lb, lo + k * 7 + 3, none⟩ = some (.string a.prev) ∧ w'.cell? ⟨lb, lo + k * 7 + 4, none⟩ = some (.string a.body) ∧ w'.cell? ⟨lb, lo + k * 7 + 5, none⟩ = some (.int .i64 a.r) ∧ w'.cell? ⟨lb, lo + k * 7 + 6, none⟩ = some (.int .i64 a.s) ∧ w'.cell? ⟨mb, mo + k * 7, none⟩ = some (.int .i64 b.house) ∧ w'.cell? ⟨mb, mo + k * 7 + 1, none⟩ = some (.int .i64 b.seq) ∧ w'.cell? ⟨mb, mo + k * 7 + 2, none⟩ = some (.int .i64 b.day) ∧ w'.cell? ⟨mb, mo + k * 7 + 3, none⟩ = some (.string b.prev) ∧ w'.cell? ⟨mb, mo + k * 7 + 4, none⟩ = some (.string b.body) ∧ w'.cell? ⟨mb, mo + k * 7 + 5, none⟩ = some (.int .i64 b.r) ∧ w'.cell? ⟨mb, mo + k * 7 + 6, none⟩ = some (.int .i64 b.s) ∧ Trk w5 w') (first | (with_reducible assumption) | (with_reducible exact HINI.out) | (with_reducible refine keep_two la lc hba ?_; with_reducible assumption) | (with_reducible refine keep_two la lc hbb ?_; with_reducible assumption) | (refine keep_two la lc (drewN_below _ 1) ?_; first | (with_reducible assumption) | (with_reducible exact HINI.out))) (first | (go_at_call_of 45 (Value.agg #[Value.int IntKind.i64 a.house, Value.int IntKind.i64 a.seq, Value.int IntKind.i64 a.day, Value.string a.prev, Value.string a.body, Value.int IntKind.i64 a.r, Value.int IntKind.i64 a.s]); with_reducible refine (FA.out _ ?TT).mono ?_; (case TT => exact (by repeat (first | exact T5.out.tabs | apply Tabs.drew | refine Tabs.below ?_ hba (Nat.le_refl _) | refine Tabs.below ?_ hbb (Nat.le_refl _)))); rintro e wa ⟨rfl, hba⟩) | (go_at_call_of 45 (Value.agg #[Value.int IntKind.i64 b.house, Value.int IntKind.i64 b.seq, Value.int IntKind.i64 b.day, Value.string b.prev, Value.string b.body, Value.int IntKind.i64 b.r, Value.int IntKind.i64 b.s]); with_reducible refine (FB.out _ ?TT).mono ?_; (case TT => exact (by repeat (first | exact T5.out.tabs | apply Tabs.drew | refine Tabs.below ?_ hba (Nat.le_refl _) | refine Tabs.below ?_ hbb (Nat.le_refl _)))); rintro e wb ⟨rfl, hbb⟩))
        all_goals
          have HFF := Lib.hid (held_two (n0 := lb) (n1 := mb) (o0 := lo + k * 7) (o1 := mo + k * 7) (a := a) (b := b) (w0 := w5) (by assumption))
          go_wp2_with fail
          go_ret
          exact ⟨rfl, T5.out.bel.trans (HFF.out.bel.mono T5.out.bel.size)⟩
      · rw [he] at hq
        clear he
        go_wp2_with fail
        go_quiet (fail)
        go_wp2_with fail
        go_roundg (gk - 1)
        case measure => omega
        case rel => exact ⟨k + 1, by omega, by go_num, T4.out.step (drewN_below wr nq), B4.out.trans ((drewN_below wr nq).mono B4.out.size)⟩
    · obtain rfl : gk = 0 := by omega
      obtain rfl : k = n := by omega
      go_wp2_with fail
      go_ret
      exact ⟨rfl, T4.out.bel⟩
theorem law_ChainForks (l : List Ent) (ao : Option Addr) (lb lo c : Nat) (m : List Ent) (bo : Option Addr) (mb mo d : Nat) (ho y : Int) (w : World) (hl : EntsAt w ao lb lo l) (il : ∀ e ∈ l, e.I) (nl : l.length ≤ 9223372036854775807) (hm : EntsAt w bo mb mo m) (im : ∀ e ∈ m, e.I) (nm : m.length ≤ 9223372036854775807) (_ : (Lit.int .i64 ho).wf = true) (_ : (Lit.int .i64 y).wf = true) (ht : Tabs w) :
    Calls Tryd.prog 14 #[.slice ao l.length c, .slice bo m.length d, .int .i64 ho, .int .i64 y] w fun e w' => e = .returned (.bool true) ∧ Below w.heap.size w w' := by
  rcases f1 : fewE l 14 with _ | _
  · exact forks_few1 l m ao bo lb lo c mb mo d ho y w hl hm ht nl f1
  rcases f2 : fewE m 14 with _ | _
  · exact forks_few2 l m ao bo lb lo c mb mo d ho y w hl hm ht nl nm f1 f2
  have l1 := few_len f1
  have l2 := few_len f2
  have ol := few_ok f1 il
  have om := few_ok f2 im
  have hCL := fun w h ht => Check_any ho y l ao lb lo c w (by omega) ol h ht
  have hCM := fun w h ht => Check_any ho y m bo mb mo d w (by omega) om h ht
  by_cases g1 : (chkE ho y l).1 = 0
  · by_cases g2 : (chkE ho y m).1 = 0
    · have k1 := chkE_good g1
      have k2 := chkE_good g2
      have hF : ∀ (j : Nat) a b, l[j]? = some a → m[j]? = some b → eqE a b = false → a.Ok ∧ b.Ok ∧ frkE y a b = true ∧ frkE y b a = true := fun j a b ha hb h => by
        obtain ⟨x1, x2⟩ := forks_law g1 g2 ha hb h
        exact ⟨ol a (List.mem_of_getElem? ha), om b (List.mem_of_getElem? hb), x1, x2⟩
      rw [chkE_of k1.1 k1.2] at hCL
      rw [chkE_of k2.1 k2.2] at hCM
      exact forks_main l m ao bo lb lo c mb mo d ho y w hl hm ht f1 f2 hCL hCM (min l.length m.length) (by omega) (by omega) (by omega) (by omega) (by omega) hF
    · exact forks_bad2 l m ao bo lb lo c mb mo d ho y w hl hm ht nl nm f1 f2 _ _ _ _ hCL hCM (by rw [g1]; rfl) (by simpa using g2)
  · exact forks_bad1 l m ao bo lb lo c mb mo d ho y w hl hm ht nl nm f1 f2 _ _ _ _ hCL hCM (by simpa using g1)
end Go.Proofs.YtpdbcahiipbhnaaDoor
