/- Layer 31: the reference's wrong. -/
import Derived.Test.YtpdbcahiipbhnaaDoorMR
import Derived.Test.YtpdbcahiipbhnaaDoorMQ
import Derived.Deep.QuietTactic
namespace Go.Proofs.YtpdbcahiipbhnaaDoor
open Go.RowKit

set_option maxHeartbeats 2000000 in
set_option maxRecDepth 100000 in
theorem RWrong_size (l : List Ent) (ao : Option Addr) (lb lo c : Nat) (i : Nat) (ho y : Int) (e : Ent) (w : World) (hl : EntsAt w ao lb lo l) (ht : Tabs w) (nl : l.length ≤ 100) (he : l[i]? = some e) (h1 : 2000 < e.body.size) :
    Calls Tryd.prog 74 #[.slice ao l.length c, .int .i64 i, .int .i64 ho, .int .i64 y] w fun x w' => x = .returned (.int .i64 3) ∧ Below w.heap.size w w' := by
  have h1' : (2000 : Int) < (e.body.size : Int) := by omega
  have hi : i < l.length := (List.getElem?_eq_some_iff.1 he).1
  obtain ⟨rfl, la⟩ := hl.ao (by omega)
  have HA := Lib.hid (hl.at_ i e he)
  have HL := Lib.hid hl
  have T0 := Lib.hid (Trk.start ht)
  have T1 := Lib.hid (T0.out.alloc (.cells #[.int .i64 e.house, .int .i64 e.seq, .int .i64 e.day, .string e.prev, .string e.body, .int .i64 e.r, .int .i64 e.s] 63))
  have H7 := Lib.hid (new7 w e.house e.seq e.day e.prev e.body e.r e.s 63)
  have i1 : (0 : Int) ≤ (i : Int) := by omega
  have i2 : (i : Int) < (l.length : Int) := by omega
  have i4 : ¬ (4000 : Int) ≤ (i : Int) := by omega
  have i5 : (i : Int) ≤ 100 := by omega
  clear hl ht he
  obtain ⟨a0, a1, a2, a3, a4, a5, a6⟩ := HA.out
  go_enter Tryd.func74, Tryd.ntmps74
  go_wp2_with fail
  go_ret
  exact ⟨rfl, T1.out.bel⟩
set_option maxHeartbeats 2000000 in
set_option maxRecDepth 100000 in
theorem RWrong_house (l : List Ent) (ao : Option Addr) (lb lo c : Nat) (i : Nat) (ho y : Int) (e : Ent) (w : World) (hl : EntsAt w ao lb lo l) (ht : Tabs w) (nl : l.length ≤ 100) (he : l[i]? = some e) (h1 : e.body.size ≤ 2000) (h_house : ¬ e.house = ho) :
    Calls Tryd.prog 74 #[.slice ao l.length c, .int .i64 i, .int .i64 ho, .int .i64 y] w fun x w' => x = .returned (.int .i64 1) ∧ Below w.heap.size w w' := by
  have h1' : ¬ (2000 : Int) < (e.body.size : Int) := by omega
  have h1'' : ¬ 2000 < e.body.size := by omega
  clear h1
  have q_house : (e.house == ho) = false := by simpa using h_house
  have q_house' : (e.house != ho) = true := by simpa using h_house
  clear h_house
  have hi : i < l.length := (List.getElem?_eq_some_iff.1 he).1
  obtain ⟨rfl, la⟩ := hl.ao (by omega)
  have HA := Lib.hid (hl.at_ i e he)
  have HL := Lib.hid hl
  have T0 := Lib.hid (Trk.start ht)
  have T1 := Lib.hid (T0.out.alloc (.cells #[.int .i64 e.house, .int .i64 e.seq, .int .i64 e.day, .string e.prev, .string e.body, .int .i64 e.r, .int .i64 e.s] 63))
  have H7 := Lib.hid (new7 w e.house e.seq e.day e.prev e.body e.r e.s 63)
  have i1 : (0 : Int) ≤ (i : Int) := by omega
  have i2 : (i : Int) < (l.length : Int) := by omega
  have i4 : ¬ (4000 : Int) ≤ (i : Int) := by omega
  have i5 : (i : Int) ≤ 100 := by omega
  clear hl ht he
  obtain ⟨a0, a1, a2, a3, a4, a5, a6⟩ := HA.out
  go_enter Tryd.func74, Tryd.ntmps74
  go_wp2_with fail
  go_ret
  exact ⟨rfl, T1.out.bel⟩
set_option maxHeartbeats 2000000 in
set_option maxRecDepth 100000 in
theorem RWrong_seq (l : List Ent) (ao : Option Addr) (lb lo c : Nat) (i : Nat) (ho y : Int) (e : Ent) (w : World) (hl : EntsAt w ao lb lo l) (ht : Tabs w) (nl : l.length ≤ 100) (he : l[i]? = some e) (h1 : e.body.size ≤ 2000) (h_house : e.house = ho) (h_seq : ¬ e.seq = (i : Int)) :
    Calls Tryd.prog 74 #[.slice ao l.length c, .int .i64 i, .int .i64 ho, .int .i64 y] w fun x w' => x = .returned (.int .i64 1) ∧ Below w.heap.size w w' := by
  have h1' : ¬ (2000 : Int) < (e.body.size : Int) := by omega
  have h1'' : ¬ 2000 < e.body.size := by omega
  clear h1
  have q_house : (e.house == ho) = true := by simpa using h_house
  have q_house' : (e.house != ho) = false := by simpa using h_house
  clear h_house
  have q_seq : (e.seq == (i : Int)) = false := by simpa using h_seq
  have q_seq' : (e.seq != (i : Int)) = true := by simpa using h_seq
  clear h_seq
  have hi : i < l.length := (List.getElem?_eq_some_iff.1 he).1
  obtain ⟨rfl, la⟩ := hl.ao (by omega)
  have HA := Lib.hid (hl.at_ i e he)
  have HL := Lib.hid hl
  have T0 := Lib.hid (Trk.start ht)
  have T1 := Lib.hid (T0.out.alloc (.cells #[.int .i64 e.house, .int .i64 e.seq, .int .i64 e.day, .string e.prev, .string e.body, .int .i64 e.r, .int .i64 e.s] 63))
  have H7 := Lib.hid (new7 w e.house e.seq e.day e.prev e.body e.r e.s 63)
  have i1 : (0 : Int) ≤ (i : Int) := by omega
  have i2 : (i : Int) < (l.length : Int) := by omega
  have i4 : ¬ (4000 : Int) ≤ (i : Int) := by omega
  have i5 : (i : Int) ≤ 100 := by omega
  clear hl ht he
  obtain ⟨a0, a1, a2, a3, a4, a5, a6⟩ := HA.out
  go_enter Tryd.func74, Tryd.ntmps74
  go_wp2_with fail
  go_ret
  exact ⟨rfl, T1.out.bel⟩
set_option maxHeartbeats 2000000 in
set_option maxRecDepth 100000 in
theorem RWrong_day0 (l : List Ent) (ao : Option Addr) (lb lo c : Nat) (i : Nat) (ho y : Int) (e : Ent) (w : World) (hl : EntsAt w ao lb lo l) (ht : Tabs w) (nl : l.length ≤ 100) (he : l[i]? = some e) (h1 : e.body.size ≤ 2000) (h_house : e.house = ho) (h_seq : e.seq = (i : Int)) (h2 : e.day < 0) :
    Calls Tryd.prog 74 #[.slice ao l.length c, .int .i64 i, .int .i64 ho, .int .i64 y] w fun x w' => x = .returned (.int .i64 1) ∧ Below w.heap.size w w' := by
  have h1' : ¬ (2000 : Int) < (e.body.size : Int) := by omega
  have h1'' : ¬ 2000 < e.body.size := by omega
  clear h1
  have q_house : (e.house == ho) = true := by simpa using h_house
  have q_house' : (e.house != ho) = false := by simpa using h_house
  clear h_house
  have q_seq : (e.seq == (i : Int)) = true := by simpa using h_seq
  have q_seq' : (e.seq != (i : Int)) = false := by simpa using h_seq
  clear h_seq
  have hi : i < l.length := (List.getElem?_eq_some_iff.1 he).1
  obtain ⟨rfl, la⟩ := hl.ao (by omega)
  have HA := Lib.hid (hl.at_ i e he)
  have HL := Lib.hid hl
  have T0 := Lib.hid (Trk.start ht)
  have T1 := Lib.hid (T0.out.alloc (.cells #[.int .i64 e.house, .int .i64 e.seq, .int .i64 e.day, .string e.prev, .string e.body, .int .i64 e.r, .int .i64 e.s] 63))
  have H7 := Lib.hid (new7 w e.house e.seq e.day e.prev e.body e.r e.s 63)
  have i1 : (0 : Int) ≤ (i : Int) := by omega
  have i2 : (i : Int) < (l.length : Int) := by omega
  have i4 : ¬ (4000 : Int) ≤ (i : Int) := by omega
  have i5 : (i : Int) ≤ 100 := by omega
  clear hl ht he
  obtain ⟨a0, a1, a2, a3, a4, a5, a6⟩ := HA.out
  go_enter Tryd.func74, Tryd.ntmps74
  go_wp2_with fail
  go_ret
  exact ⟨rfl, T1.out.bel⟩
set_option maxHeartbeats 2000000 in
set_option maxRecDepth 100000 in
theorem RWrong_day1 (l : List Ent) (ao : Option Addr) (lb lo c : Nat) (i : Nat) (ho y : Int) (e : Ent) (w : World) (hl : EntsAt w ao lb lo l) (ht : Tabs w) (nl : l.length ≤ 100) (he : l[i]? = some e) (h1 : e.body.size ≤ 2000) (h_house : e.house = ho) (h_seq : e.seq = (i : Int)) (h2 : ¬ e.day < 0) (h3 : 2000 < e.day) :
    Calls Tryd.prog 74 #[.slice ao l.length c, .int .i64 i, .int .i64 ho, .int .i64 y] w fun x w' => x = .returned (.int .i64 1) ∧ Below w.heap.size w w' := by
  have h1' : ¬ (2000 : Int) < (e.body.size : Int) := by omega
  have h1'' : ¬ 2000 < e.body.size := by omega
  clear h1
  have q_house : (e.house == ho) = true := by simpa using h_house
  have q_house' : (e.house != ho) = false := by simpa using h_house
  clear h_house
  have q_seq : (e.seq == (i : Int)) = true := by simpa using h_seq
  have q_seq' : (e.seq != (i : Int)) = false := by simpa using h_seq
  clear h_seq
  have hi : i < l.length := (List.getElem?_eq_some_iff.1 he).1
  obtain ⟨rfl, la⟩ := hl.ao (by omega)
  have HA := Lib.hid (hl.at_ i e he)
  have HL := Lib.hid hl
  have T0 := Lib.hid (Trk.start ht)
  have T1 := Lib.hid (T0.out.alloc (.cells #[.int .i64 e.house, .int .i64 e.seq, .int .i64 e.day, .string e.prev, .string e.body, .int .i64 e.r, .int .i64 e.s] 63))
  have H7 := Lib.hid (new7 w e.house e.seq e.day e.prev e.body e.r e.s 63)
  have i1 : (0 : Int) ≤ (i : Int) := by omega
  have i2 : (i : Int) < (l.length : Int) := by omega
  have i4 : ¬ (4000 : Int) ≤ (i : Int) := by omega
  have i5 : (i : Int) ≤ 100 := by omega
  clear hl ht he
  obtain ⟨a0, a1, a2, a3, a4, a5, a6⟩ := HA.out
  go_enter Tryd.func74, Tryd.ntmps74
  go_wp2_with fail
  go_ret
  exact ⟨rfl, T1.out.bel⟩
set_option maxHeartbeats 2000000 in
set_option maxRecDepth 100000 in
theorem RWrong_z_prev (l : List Ent) (ao : Option Addr) (lb lo c : Nat) (ho y : Int) (e : Ent) (w : World) (hl : EntsAt w ao lb lo l) (ht : Tabs w) (nl : l.length ≤ 100) (he : l[0]? = some e) (h1 : e.body.size ≤ 2000) (h_house : e.house = ho) (h_seq : e.seq = 0) (h2 : ¬ e.day < 0) (h3 : ¬ 2000 < e.day) (h4 : e.prev ≠ ⟨#[]⟩) :
    Calls Tryd.prog 74 #[.slice ao l.length c, .int .i64 0, .int .i64 ho, .int .i64 y] w fun x w' => x = .returned (.int .i64 17) ∧ Below w.heap.size w w' := by
  have h1' : ¬ (2000 : Int) < (e.body.size : Int) := by omega
  have h1'' : ¬ 2000 < e.body.size := by omega
  clear h1
  have q_house : (e.house == ho) = true := by simpa using h_house
  have q_house' : (e.house != ho) = false := by simpa using h_house
  clear h_house
  have q_seq : (e.seq == 0) = true := by simpa using h_seq
  have q_seq' : (e.seq != 0) = false := by simpa using h_seq
  clear h_seq
  have e0 : (⟨#[]⟩ : ByteArray).toList = [] := by simp
  have h4' := str_ne h4
  rw [e0] at h4'
  have h4n : ¬ e.prev.toList = [] := fun h => by rw [h] at h4'; exact absurd h4' (by decide)
  clear h4 h4' e0
  have hi : 0 < l.length := (List.getElem?_eq_some_iff.1 he).1
  obtain ⟨rfl, la⟩ := hl.ao (by omega)
  have hA := hl.at_ 0 e he
  rw [Nat.zero_mul, Nat.add_zero] at hA
  have HA := Lib.hid hA
  clear hA
  have HL := Lib.hid hl
  have T0 := Lib.hid (Trk.start ht)
  have T1 := Lib.hid (T0.out.alloc (.cells #[.int .i64 e.house, .int .i64 e.seq, .int .i64 e.day, .string e.prev, .string e.body, .int .i64 e.r, .int .i64 e.s] 63))
  have H7 := Lib.hid (new7 w e.house e.seq e.day e.prev e.body e.r e.s 63)
  have i2 : (0 : Int) < (l.length : Int) := by omega
  clear hl ht he
  obtain ⟨a0, a1, a2, a3, a4, a5, a6⟩ := HA.out
  go_enter Tryd.func74, Tryd.ntmps74
  go_wp2_with fail
  go_ret
  exact ⟨rfl, T1.out.bel⟩
set_option maxHeartbeats 2000000 in
set_option maxRecDepth 100000 in
theorem RWrong_z_sig (l : List Ent) (ao : Option Addr) (lb lo c : Nat) (ho y : Int) (e : Ent) (w : World) (hl : EntsAt w ao lb lo l) (ht : Tabs w) (nl : l.length ≤ 100) (he : l[0]? = some e) (h1 : e.body.size ≤ 2000) (h_house : e.house = ho) (h_seq : e.seq = 0) (h2 : ¬ e.day < 0) (h3 : ¬ 2000 < e.day) (h4 : e.prev = ⟨#[]⟩) (hs : ∀ w, Tabs w → Calls Tryd.prog 80 #[.agg #[.int .i64 e.house, .int .i64 e.seq, .int .i64 e.day, .string e.prev, .string e.body, .int .i64 e.r, .int .i64 e.s], .int .i64 y] w fun x w' => x = .returned (.bool false) ∧ Below w.heap.size w w')  :
    Calls Tryd.prog 74 #[.slice ao l.length c, .int .i64 0, .int .i64 ho, .int .i64 y] w fun x w' => x = .returned (.int .i64 17) ∧ Below w.heap.size w w' := by
  have h1' : ¬ (2000 : Int) < (e.body.size : Int) := by omega
  have h1'' : ¬ 2000 < e.body.size := by omega
  clear h1
  have q_house : (e.house == ho) = true := by simpa using h_house
  have q_house' : (e.house != ho) = false := by simpa using h_house
  clear h_house
  have q_seq : (e.seq == 0) = true := by simpa using h_seq
  have q_seq' : (e.seq != 0) = false := by simpa using h_seq
  clear h_seq
  have HS := Lib.hid hs
  clear hs
  have e0 : (⟨#[]⟩ : ByteArray).toList = [] := by simp
  have h4n : e.prev.toList = [] := by rw [h4]; exact e0
  clear h4 e0
  have hi : 0 < l.length := (List.getElem?_eq_some_iff.1 he).1
  obtain ⟨rfl, la⟩ := hl.ao (by omega)
  have hA := hl.at_ 0 e he
  rw [Nat.zero_mul, Nat.add_zero] at hA
  have HA := Lib.hid hA
  clear hA
  have HL := Lib.hid hl
  have T0 := Lib.hid (Trk.start ht)
  have T1 := Lib.hid (T0.out.alloc (.cells #[.int .i64 e.house, .int .i64 e.seq, .int .i64 e.day, .string e.prev, .string e.body, .int .i64 e.r, .int .i64 e.s] 63))
  have H7 := Lib.hid (new7 w e.house e.seq e.day e.prev e.body e.r e.s 63)
  have i2 : (0 : Int) < (l.length : Int) := by omega
  clear hl ht he
  obtain ⟨a0, a1, a2, a3, a4, a5, a6⟩ := HA.out
  go_enter Tryd.func74, Tryd.ntmps74
  go_wp2_with fail
  have E7 := H7.out
  obtain ⟨c0, c1, c2, c3, c4, c5, c6⟩ := E7
  have TT := T1
  refine (HS.out _ TT.out.tabs).mono ?_
  rintro x w3 ⟨rfl, hb⟩
  have T3 := Lib.hid (TT.out.step hb)
  clear hb
  go_wp2_with fail
  go_ret
  exact ⟨rfl, T3.out.bel⟩
set_option maxHeartbeats 2000000 in
set_option maxRecDepth 100000 in
theorem RWrong_z_ok (l : List Ent) (ao : Option Addr) (lb lo c : Nat) (ho y : Int) (e : Ent) (w : World) (hl : EntsAt w ao lb lo l) (ht : Tabs w) (nl : l.length ≤ 100) (he : l[0]? = some e) (h1 : e.body.size ≤ 2000) (h_house : e.house = ho) (h_seq : e.seq = 0) (h2 : ¬ e.day < 0) (h3 : ¬ 2000 < e.day) (h4 : e.prev = ⟨#[]⟩) (hs : ∀ w, Tabs w → Calls Tryd.prog 80 #[.agg #[.int .i64 e.house, .int .i64 e.seq, .int .i64 e.day, .string e.prev, .string e.body, .int .i64 e.r, .int .i64 e.s], .int .i64 y] w fun x w' => x = .returned (.bool true) ∧ Below w.heap.size w w')  :
    Calls Tryd.prog 74 #[.slice ao l.length c, .int .i64 0, .int .i64 ho, .int .i64 y] w fun x w' => x = .returned (.int .i64 0) ∧ Below w.heap.size w w' := by
  have h1' : ¬ (2000 : Int) < (e.body.size : Int) := by omega
  have h1'' : ¬ 2000 < e.body.size := by omega
  clear h1
  have q_house : (e.house == ho) = true := by simpa using h_house
  have q_house' : (e.house != ho) = false := by simpa using h_house
  clear h_house
  have q_seq : (e.seq == 0) = true := by simpa using h_seq
  have q_seq' : (e.seq != 0) = false := by simpa using h_seq
  clear h_seq
  have HS := Lib.hid hs
  clear hs
  have e0 : (⟨#[]⟩ : ByteArray).toList = [] := by simp
  have h4n : e.prev.toList = [] := by rw [h4]; exact e0
  clear h4 e0
  have hi : 0 < l.length := (List.getElem?_eq_some_iff.1 he).1
  obtain ⟨rfl, la⟩ := hl.ao (by omega)
  have hA := hl.at_ 0 e he
  rw [Nat.zero_mul, Nat.add_zero] at hA
  have HA := Lib.hid hA
  clear hA
  have HL := Lib.hid hl
  have T0 := Lib.hid (Trk.start ht)
  have T1 := Lib.hid (T0.out.alloc (.cells #[.int .i64 e.house, .int .i64 e.seq, .int .i64 e.day, .string e.prev, .string e.body, .int .i64 e.r, .int .i64 e.s] 63))
  have H7 := Lib.hid (new7 w e.house e.seq e.day e.prev e.body e.r e.s 63)
  have i2 : (0 : Int) < (l.length : Int) := by omega
  clear hl ht he
  obtain ⟨a0, a1, a2, a3, a4, a5, a6⟩ := HA.out
  go_enter Tryd.func74, Tryd.ntmps74
  go_wp2_with fail
  have E7 := H7.out
  obtain ⟨c0, c1, c2, c3, c4, c5, c6⟩ := E7
  have TT := T1
  refine (HS.out _ TT.out.tabs).mono ?_
  rintro x w3 ⟨rfl, hb⟩
  have T3 := Lib.hid (TT.out.step hb)
  clear hb
  go_wp2_with fail
  go_ret
  exact ⟨rfl, T3.out.bel⟩
set_option maxHeartbeats 2000000 in
set_option maxRecDepth 100000 in
theorem RWrong_n_day (l : List Ent) (ao : Option Addr) (lb lo c : Nat) (k : Nat) (p : Ent) (ho y : Int) (e : Ent) (w : World) (hl : EntsAt w ao lb lo l) (ht : Tabs w) (nl : l.length ≤ 100) (he : l[k + 1]? = some e) (h1 : e.body.size ≤ 2000) (h_house : e.house = ho) (h_seq : e.seq = ((k : Int) + 1)) (h2 : ¬ e.day < 0) (h3 : ¬ 2000 < e.day) (hp : l[k]? = some p) (h5 : e.day < p.day) :
    Calls Tryd.prog 74 #[.slice ao l.length c, .int .i64 ((k : Int) + 1), .int .i64 ho, .int .i64 y] w fun x w' => x = .returned (.int .i64 15) ∧ Below w.heap.size w w' := by
  have h1' : ¬ (2000 : Int) < (e.body.size : Int) := by omega
  have h1'' : ¬ 2000 < e.body.size := by omega
  clear h1
  have q_house : (e.house == ho) = true := by simpa using h_house
  have q_house' : (e.house != ho) = false := by simpa using h_house
  clear h_house
  have q_seq : (e.seq == ((k : Int) + 1)) = true := by simpa using h_seq
  have q_seq' : (e.seq != ((k : Int) + 1)) = false := by simpa using h_seq
  clear h_seq
  have hi : k + 1 < l.length := (List.getElem?_eq_some_iff.1 he).1
  obtain ⟨rfl, la⟩ := hl.ao (by omega)
  have HA := Lib.hid (hl.at_ (k + 1) e he)
  have HL := Lib.hid hl
  have T0 := Lib.hid (Trk.start ht)
  have T1 := Lib.hid (T0.out.alloc (.cells #[.int .i64 e.house, .int .i64 e.seq, .int .i64 e.day, .string e.prev, .string e.body, .int .i64 e.r, .int .i64 e.s] 63))
  have H7 := Lib.hid (new7 w e.house e.seq e.day e.prev e.body e.r e.s 63)
  have i1 : (0 : Int) ≤ ((k : Int) + 1) := by omega
  have i2 : ((k : Int) + 1) < (l.length : Int) := by omega
  have i4 : ¬ (4000 : Int) ≤ ((k : Int) + 1) := by omega
  have i5 : ((k : Int) + 1) ≤ 100 := by omega
  have j1 : (0 : Int) ≤ (k : Int) := by omega
  have j2 : (k : Int) < (l.length : Int) := by omega
  have j3 : k < l.length := by omega
  have j4 : (0 : Int) < (k : Int) + 1 := by omega
  have j5 : (k : Int) + 1 - 1 = (k : Int) := by omega
  have j6 : (k : Int) ≤ 100 := by omega
  have HP := Lib.hid (hl.at_ k p hp)
  obtain ⟨b0, b1, b2, b3, b4, b5, b6⟩ := HP.out
  clear hl ht he hp
  obtain ⟨a0, a1, a2, a3, a4, a5, a6⟩ := HA.out
  go_enter Tryd.func74, Tryd.ntmps74
  go_wp2_with fail
  go_quiet (fail)
  go_wp2_with fail
  go_ret
  exact ⟨rfl, (T1.out.step (drewN_below _ nq)).bel⟩
set_option maxHeartbeats 2000000 in
set_option maxRecDepth 100000 in
theorem RWrong_n_prev (l : List Ent) (ao : Option Addr) (lb lo c : Nat) (k : Nat) (p : Ent) (ho y : Int) (e : Ent) (w : World) (hl : EntsAt w ao lb lo l) (ht : Tabs w) (nl : l.length ≤ 100) (he : l[k + 1]? = some e) (dg : ByteArray) (h1 : e.body.size ≤ 2000) (h_house : e.house = ho) (h_seq : e.seq = ((k : Int) + 1)) (h2 : ¬ e.day < 0) (h3 : ¬ 2000 < e.day) (h5 : ¬ e.day < p.day) (hp : l[k]? = some p) (hd : ∀ w, Tabs w → Calls Tryd.prog 49 #[.agg #[.int .i64 p.house, .int .i64 p.seq, .int .i64 p.day, .string p.prev, .string p.body, .int .i64 p.r, .int .i64 p.s]] w fun x w' => x = .returned (.string dg) ∧ Below w.heap.size w w') (h4 : e.prev ≠ dg) :
    Calls Tryd.prog 74 #[.slice ao l.length c, .int .i64 ((k : Int) + 1), .int .i64 ho, .int .i64 y] w fun x w' => x = .returned (.int .i64 17) ∧ Below w.heap.size w w' := by
  have h1' : ¬ (2000 : Int) < (e.body.size : Int) := by omega
  have h1'' : ¬ 2000 < e.body.size := by omega
  clear h1
  have q_house : (e.house == ho) = true := by simpa using h_house
  have q_house' : (e.house != ho) = false := by simpa using h_house
  clear h_house
  have q_seq : (e.seq == ((k : Int) + 1)) = true := by simpa using h_seq
  have q_seq' : (e.seq != ((k : Int) + 1)) = false := by simpa using h_seq
  clear h_seq
  have HD := Lib.hid hd
  have HPK := Lib.hid hp
  clear hd
  have h4' := str_ne h4
  have h4'' : (e.prev.toList != dg.toList) = true := by simp only [bne, h4']; rfl
  clear h4
  have hi : k + 1 < l.length := (List.getElem?_eq_some_iff.1 he).1
  obtain ⟨rfl, la⟩ := hl.ao (by omega)
  have HA := Lib.hid (hl.at_ (k + 1) e he)
  have HL := Lib.hid hl
  have T0 := Lib.hid (Trk.start ht)
  have T1 := Lib.hid (T0.out.alloc (.cells #[.int .i64 e.house, .int .i64 e.seq, .int .i64 e.day, .string e.prev, .string e.body, .int .i64 e.r, .int .i64 e.s] 63))
  have H7 := Lib.hid (new7 w e.house e.seq e.day e.prev e.body e.r e.s 63)
  have i1 : (0 : Int) ≤ ((k : Int) + 1) := by omega
  have i2 : ((k : Int) + 1) < (l.length : Int) := by omega
  have i4 : ¬ (4000 : Int) ≤ ((k : Int) + 1) := by omega
  have i5 : ((k : Int) + 1) ≤ 100 := by omega
  have j1 : (0 : Int) ≤ (k : Int) := by omega
  have j2 : (k : Int) < (l.length : Int) := by omega
  have j3 : k < l.length := by omega
  have j4 : (0 : Int) < (k : Int) + 1 := by omega
  have j5 : (k : Int) + 1 - 1 = (k : Int) := by omega
  have j6 : (k : Int) ≤ 100 := by omega
  have HP := Lib.hid (hl.at_ k p hp)
  obtain ⟨b0, b1, b2, b3, b4, b5, b6⟩ := HP.out
  clear hl ht he hp
  obtain ⟨a0, a1, a2, a3, a4, a5, a6⟩ := HA.out
  go_enter Tryd.func74, Tryd.ntmps74
  go_wp2_with fail
  go_quiet (fail)
  have lw : w.heap.size < (w.alloc (.cells #[.int .i64 e.house, .int .i64 e.seq, .int .i64 e.day, .string e.prev, .string e.body, .int .i64 e.r, .int .i64 e.s] 63)).heap.size := by simp
  have lw2 : lb < (w.alloc (.cells #[.int .i64 e.house, .int .i64 e.seq, .int .i64 e.day, .string e.prev, .string e.body, .int .i64 e.r, .int .i64 e.s] 63)).heap.size := by simp; omega
  have T2 := Lib.hid (T1.out.step (drewN_below _ nq))
  have E2 := Lib.hid (keep7 lw (drewN_below _ nq) H7.out)
  have L2 := Lib.hid ((HL.out.step (alloc_below w (.cells #[.int .i64 e.house, .int .i64 e.seq, .int .i64 e.day, .string e.prev, .string e.body, .int .i64 e.r, .int .i64 e.s] 63))).step (drewN_below _ nq))
  have P2 := Lib.hid (L2.out.at_ k p HPK.out)
  have lw : w.heap.size < ((w.alloc (.cells #[.int .i64 e.house, .int .i64 e.seq, .int .i64 e.day, .string e.prev, .string e.body, .int .i64 e.r, .int .i64 e.s] 63)).drewN nq).heap.size := lw
  have lw2 : lb < ((w.alloc (.cells #[.int .i64 e.house, .int .i64 e.seq, .int .i64 e.day, .string e.prev, .string e.body, .int .i64 e.r, .int .i64 e.s] 63)).drewN nq).heap.size := lw2
  clear a0 a1 a2 a3 a4 a5 a6 b0 b1 b2 b3 b4 b5 b6 HA HP HL L2 T0 T1 H7
  generalize (w.alloc (.cells #[.int .i64 e.house, .int .i64 e.seq, .int .i64 e.day, .string e.prev, .string e.body, .int .i64 e.r, .int .i64 e.s] 63)).drewN nq = w1 at *
  obtain ⟨b0, b1, b2, b3, b4, b5, b6⟩ := P2.out
  obtain ⟨c0, c1, c2, c3, c4, c5, c6⟩ := E2.out
  go_wp2_with fail
  refine (HD.out _ T2.out.tabs).mono ?_
  rintro x w2 ⟨rfl, hb⟩
  have TT := Lib.hid (T2.out.step hb)
  have E3 := Lib.hid (keep7 lw hb E2.out)
  clear hb b0 b1 b2 b3 b4 b5 b6 c0 c1 c2 c3 c4 c5 c6 E2 P2 lw lw2
  obtain ⟨c0, c1, c2, c3, c4, c5, c6⟩ := E3.out
  go_wp2_with fail
  go_ret
  exact ⟨rfl, TT.out.bel⟩
set_option maxHeartbeats 2000000 in
set_option maxRecDepth 100000 in
theorem RWrong_n_sig (l : List Ent) (ao : Option Addr) (lb lo c : Nat) (k : Nat) (p : Ent) (ho y : Int) (e : Ent) (w : World) (hl : EntsAt w ao lb lo l) (ht : Tabs w) (nl : l.length ≤ 100) (he : l[k + 1]? = some e) (dg : ByteArray) (h1 : e.body.size ≤ 2000) (h_house : e.house = ho) (h_seq : e.seq = ((k : Int) + 1)) (h2 : ¬ e.day < 0) (h3 : ¬ 2000 < e.day) (h5 : ¬ e.day < p.day) (hp : l[k]? = some p) (hd : ∀ w, Tabs w → Calls Tryd.prog 49 #[.agg #[.int .i64 p.house, .int .i64 p.seq, .int .i64 p.day, .string p.prev, .string p.body, .int .i64 p.r, .int .i64 p.s]] w fun x w' => x = .returned (.string dg) ∧ Below w.heap.size w w') (h4 : e.prev = dg) (hs : ∀ w, Tabs w → Calls Tryd.prog 80 #[.agg #[.int .i64 e.house, .int .i64 e.seq, .int .i64 e.day, .string e.prev, .string e.body, .int .i64 e.r, .int .i64 e.s], .int .i64 y] w fun x w' => x = .returned (.bool false) ∧ Below w.heap.size w w')  :
    Calls Tryd.prog 74 #[.slice ao l.length c, .int .i64 ((k : Int) + 1), .int .i64 ho, .int .i64 y] w fun x w' => x = .returned (.int .i64 17) ∧ Below w.heap.size w w' := by
  have h1' : ¬ (2000 : Int) < (e.body.size : Int) := by omega
  have h1'' : ¬ 2000 < e.body.size := by omega
  clear h1
  have q_house : (e.house == ho) = true := by simpa using h_house
  have q_house' : (e.house != ho) = false := by simpa using h_house
  clear h_house
  have q_seq : (e.seq == ((k : Int) + 1)) = true := by simpa using h_seq
  have q_seq' : (e.seq != ((k : Int) + 1)) = false := by simpa using h_seq
  clear h_seq
  have HD := Lib.hid hd
  have HPK := Lib.hid hp
  clear hd
  have HS := Lib.hid hs
  clear hs
  have h4'' : (e.prev.toList != dg.toList) = false := by rw [h4]; simp
  have h4' : (e.prev.toList == dg.toList) = true := by rw [h4]; simp
  clear h4
  have hi : k + 1 < l.length := (List.getElem?_eq_some_iff.1 he).1
  obtain ⟨rfl, la⟩ := hl.ao (by omega)
  have HA := Lib.hid (hl.at_ (k + 1) e he)
  have HL := Lib.hid hl
  have T0 := Lib.hid (Trk.start ht)
  have T1 := Lib.hid (T0.out.alloc (.cells #[.int .i64 e.house, .int .i64 e.seq, .int .i64 e.day, .string e.prev, .string e.body, .int .i64 e.r, .int .i64 e.s] 63))
  have H7 := Lib.hid (new7 w e.house e.seq e.day e.prev e.body e.r e.s 63)
  have i1 : (0 : Int) ≤ ((k : Int) + 1) := by omega
  have i2 : ((k : Int) + 1) < (l.length : Int) := by omega
  have i4 : ¬ (4000 : Int) ≤ ((k : Int) + 1) := by omega
  have i5 : ((k : Int) + 1) ≤ 100 := by omega
  have j1 : (0 : Int) ≤ (k : Int) := by omega
  have j2 : (k : Int) < (l.length : Int) := by omega
  have j3 : k < l.length := by omega
  have j4 : (0 : Int) < (k : Int) + 1 := by omega
  have j5 : (k : Int) + 1 - 1 = (k : Int) := by omega
  have j6 : (k : Int) ≤ 100 := by omega
  have HP := Lib.hid (hl.at_ k p hp)
  obtain ⟨b0, b1, b2, b3, b4, b5, b6⟩ := HP.out
  clear hl ht he hp
  obtain ⟨a0, a1, a2, a3, a4, a5, a6⟩ := HA.out
  go_enter Tryd.func74, Tryd.ntmps74
  go_wp2_with fail
  go_quiet (fail)
  have lw : w.heap.size < (w.alloc (.cells #[.int .i64 e.house, .int .i64 e.seq, .int .i64 e.day, .string e.prev, .string e.body, .int .i64 e.r, .int .i64 e.s] 63)).heap.size := by simp
  have lw2 : lb < (w.alloc (.cells #[.int .i64 e.house, .int .i64 e.seq, .int .i64 e.day, .string e.prev, .string e.body, .int .i64 e.r, .int .i64 e.s] 63)).heap.size := by simp; omega
  have T2 := Lib.hid (T1.out.step (drewN_below _ nq))
  have E2 := Lib.hid (keep7 lw (drewN_below _ nq) H7.out)
  have L2 := Lib.hid ((HL.out.step (alloc_below w (.cells #[.int .i64 e.house, .int .i64 e.seq, .int .i64 e.day, .string e.prev, .string e.body, .int .i64 e.r, .int .i64 e.s] 63))).step (drewN_below _ nq))
  have P2 := Lib.hid (L2.out.at_ k p HPK.out)
  have lw : w.heap.size < ((w.alloc (.cells #[.int .i64 e.house, .int .i64 e.seq, .int .i64 e.day, .string e.prev, .string e.body, .int .i64 e.r, .int .i64 e.s] 63)).drewN nq).heap.size := lw
  have lw2 : lb < ((w.alloc (.cells #[.int .i64 e.house, .int .i64 e.seq, .int .i64 e.day, .string e.prev, .string e.body, .int .i64 e.r, .int .i64 e.s] 63)).drewN nq).heap.size := lw2
  clear a0 a1 a2 a3 a4 a5 a6 b0 b1 b2 b3 b4 b5 b6 HA HP HL L2 T0 T1 H7
  generalize (w.alloc (.cells #[.int .i64 e.house, .int .i64 e.seq, .int .i64 e.day, .string e.prev, .string e.body, .int .i64 e.r, .int .i64 e.s] 63)).drewN nq = w1 at *
  obtain ⟨b0, b1, b2, b3, b4, b5, b6⟩ := P2.out
  obtain ⟨c0, c1, c2, c3, c4, c5, c6⟩ := E2.out
  go_wp2_with fail
  refine (HD.out _ T2.out.tabs).mono ?_
  rintro x w2 ⟨rfl, hb⟩
  have TT := Lib.hid (T2.out.step hb)
  have E3 := Lib.hid (keep7 lw hb E2.out)
  clear hb b0 b1 b2 b3 b4 b5 b6 c0 c1 c2 c3 c4 c5 c6 E2 P2 lw lw2
  obtain ⟨c0, c1, c2, c3, c4, c5, c6⟩ := E3.out
  go_wp2_with fail
  refine (HS.out _ TT.out.tabs).mono ?_
  rintro x w3 ⟨rfl, hb⟩
  have T3 := Lib.hid (TT.out.step hb)
  clear hb
  go_wp2_with fail
  go_ret
  exact ⟨rfl, T3.out.bel⟩
set_option maxHeartbeats 2000000 in
set_option maxRecDepth 100000 in
theorem RWrong_n_ok (l : List Ent) (ao : Option Addr) (lb lo c : Nat) (k : Nat) (p : Ent) (ho y : Int) (e : Ent) (w : World) (hl : EntsAt w ao lb lo l) (ht : Tabs w) (nl : l.length ≤ 100) (he : l[k + 1]? = some e) (dg : ByteArray) (h1 : e.body.size ≤ 2000) (h_house : e.house = ho) (h_seq : e.seq = ((k : Int) + 1)) (h2 : ¬ e.day < 0) (h3 : ¬ 2000 < e.day) (h5 : ¬ e.day < p.day) (hp : l[k]? = some p) (hd : ∀ w, Tabs w → Calls Tryd.prog 49 #[.agg #[.int .i64 p.house, .int .i64 p.seq, .int .i64 p.day, .string p.prev, .string p.body, .int .i64 p.r, .int .i64 p.s]] w fun x w' => x = .returned (.string dg) ∧ Below w.heap.size w w') (h4 : e.prev = dg) (hs : ∀ w, Tabs w → Calls Tryd.prog 80 #[.agg #[.int .i64 e.house, .int .i64 e.seq, .int .i64 e.day, .string e.prev, .string e.body, .int .i64 e.r, .int .i64 e.s], .int .i64 y] w fun x w' => x = .returned (.bool true) ∧ Below w.heap.size w w')  :
    Calls Tryd.prog 74 #[.slice ao l.length c, .int .i64 ((k : Int) + 1), .int .i64 ho, .int .i64 y] w fun x w' => x = .returned (.int .i64 0) ∧ Below w.heap.size w w' := by
  have h1' : ¬ (2000 : Int) < (e.body.size : Int) := by omega
  have h1'' : ¬ 2000 < e.body.size := by omega
  clear h1
  have q_house : (e.house == ho) = true := by simpa using h_house
  have q_house' : (e.house != ho) = false := by simpa using h_house
  clear h_house
  have q_seq : (e.seq == ((k : Int) + 1)) = true := by simpa using h_seq
  have q_seq' : (e.seq != ((k : Int) + 1)) = false := by simpa using h_seq
  clear h_seq
  have HD := Lib.hid hd
  have HPK := Lib.hid hp
  clear hd
  have HS := Lib.hid hs
  clear hs
  have h4'' : (e.prev.toList != dg.toList) = false := by rw [h4]; simp
  have h4' : (e.prev.toList == dg.toList) = true := by rw [h4]; simp
  clear h4
  have hi : k + 1 < l.length := (List.getElem?_eq_some_iff.1 he).1
  obtain ⟨rfl, la⟩ := hl.ao (by omega)
  have HA := Lib.hid (hl.at_ (k + 1) e he)
  have HL := Lib.hid hl
  have T0 := Lib.hid (Trk.start ht)
  have T1 := Lib.hid (T0.out.alloc (.cells #[.int .i64 e.house, .int .i64 e.seq, .int .i64 e.day, .string e.prev, .string e.body, .int .i64 e.r, .int .i64 e.s] 63))
  have H7 := Lib.hid (new7 w e.house e.seq e.day e.prev e.body e.r e.s 63)
  have i1 : (0 : Int) ≤ ((k : Int) + 1) := by omega
  have i2 : ((k : Int) + 1) < (l.length : Int) := by omega
  have i4 : ¬ (4000 : Int) ≤ ((k : Int) + 1) := by omega
  have i5 : ((k : Int) + 1) ≤ 100 := by omega
  have j1 : (0 : Int) ≤ (k : Int) := by omega
  have j2 : (k : Int) < (l.length : Int) := by omega
  have j3 : k < l.length := by omega
  have j4 : (0 : Int) < (k : Int) + 1 := by omega
  have j5 : (k : Int) + 1 - 1 = (k : Int) := by omega
  have j6 : (k : Int) ≤ 100 := by omega
  have HP := Lib.hid (hl.at_ k p hp)
  obtain ⟨b0, b1, b2, b3, b4, b5, b6⟩ := HP.out
  clear hl ht he hp
  obtain ⟨a0, a1, a2, a3, a4, a5, a6⟩ := HA.out
  go_enter Tryd.func74, Tryd.ntmps74
  go_wp2_with fail
  go_quiet (fail)
  have lw : w.heap.size < (w.alloc (.cells #[.int .i64 e.house, .int .i64 e.seq, .int .i64 e.day, .string e.prev, .string e.body, .int .i64 e.r, .int .i64 e.s] 63)).heap.size := by simp
  have lw2 : lb < (w.alloc (.cells #[.int .i64 e.house, .int .i64 e.seq, .int .i64 e.day, .string e.prev, .string e.body, .int .i64 e.r, .int .i64 e.s] 63)).heap.size := by simp; omega
  have T2 := Lib.hid (T1.out.step (drewN_below _ nq))
  have E2 := Lib.hid (keep7 lw (drewN_below _ nq) H7.out)
  have L2 := Lib.hid ((HL.out.step (alloc_below w (.cells #[.int .i64 e.house, .int .i64 e.seq, .int .i64 e.day, .string e.prev, .string e.body, .int .i64 e.r, .int .i64 e.s] 63))).step (drewN_below _ nq))
  have P2 := Lib.hid (L2.out.at_ k p HPK.out)
  have lw : w.heap.size < ((w.alloc (.cells #[.int .i64 e.house, .int .i64 e.seq, .int .i64 e.day, .string e.prev, .string e.body, .int .i64 e.r, .int .i64 e.s] 63)).drewN nq).heap.size := lw
  have lw2 : lb < ((w.alloc (.cells #[.int .i64 e.house, .int .i64 e.seq, .int .i64 e.day, .string e.prev, .string e.body, .int .i64 e.r, .int .i64 e.s] 63)).drewN nq).heap.size := lw2
  clear a0 a1 a2 a3 a4 a5 a6 b0 b1 b2 b3 b4 b5 b6 HA HP HL L2 T0 T1 H7
  generalize (w.alloc (.cells #[.int .i64 e.house, .int .i64 e.seq, .int .i64 e.day, .string e.prev, .string e.body, .int .i64 e.r, .int .i64 e.s] 63)).drewN nq = w1 at *
  obtain ⟨b0, b1, b2, b3, b4, b5, b6⟩ := P2.out
  obtain ⟨c0, c1, c2, c3, c4, c5, c6⟩ := E2.out
  go_wp2_with fail
  refine (HD.out _ T2.out.tabs).mono ?_
  rintro x w2 ⟨rfl, hb⟩
  have TT := Lib.hid (T2.out.step hb)
  have E3 := Lib.hid (keep7 lw hb E2.out)
  clear hb b0 b1 b2 b3 b4 b5 b6 c0 c1 c2 c3 c4 c5 c6 E2 P2 lw lw2
  obtain ⟨c0, c1, c2, c3, c4, c5, c6⟩ := E3.out
  go_wp2_with fail
  refine (HS.out _ TT.out.tabs).mono ?_
  rintro x w3 ⟨rfl, hb⟩
  have T3 := Lib.hid (TT.out.step hb)
  clear hb
  go_wp2_with fail
  go_ret
  exact ⟨rfl, T3.out.bel⟩
theorem pDay_at : ∀ (l : List Ent) (pd : Int) (k : Nat) (p : Ent), l[k]? = some p → pDay pd l (k + 1) = p.day
  | [], _, k, p, h => by simp at h
  | x :: l, pd, 0, p, h => by simp at h; subst h; unfold pDay; unfold pDay; rfl
  | x :: l, pd, k + 1, p, h => by unfold pDay; exact pDay_at l x.day k p (by simpa using h)
theorem pDig_at : ∀ (l : List Ent) (pv : ByteArray) (k : Nat) (p : Ent), l[k]? = some p → pDig pv l (k + 1) = p.dig
  | [], _, k, p, h => by simp at h
  | x :: l, pv, 0, p, h => by simp at h; subst h; unfold pDig; unfold pDig; rfl
  | x :: l, pv, k + 1, p, h => by unfold pDig; exact pDig_at l x.dig k p (by simpa using h)
theorem RSigned_ent (y : Int) (e : Ent) (w : World) (he : e.Ok) (ht : Tabs w) : Calls Tryd.prog 80 #[.agg #[.int .i64 e.house, .int .i64 e.seq, .int .i64 e.day, .string e.prev, .string e.body, .int .i64 e.r, .int .i64 e.s], .int .i64 y] w fun x w' => x = .returned (.bool (e.sgd y)) ∧ Below w.heap.size w w' :=
  RSigned_raw y e.house e.seq e.day e.prev e.body e.r e.s w he.house he.seq he.day he.prev he.body ht
theorem RDigest_ent (e : Ent) (w : World) (he : e.Ok) (ht : Tabs w) : Calls Tryd.prog 49 #[.agg #[.int .i64 e.house, .int .i64 e.seq, .int .i64 e.day, .string e.prev, .string e.body, .int .i64 e.r, .int .i64 e.s]] w fun x w' => x = .returned (.string e.dig) ∧ Below w.heap.size w w' :=
  RDigest_raw e.house e.seq e.day e.prev e.body e.r e.s w he.house he.seq he.day he.r he.s he.prev he.body ht
theorem RWrong_any (l : List Ent) (ao : Option Addr) (lb lo c : Nat) (i : Nat) (ho y : Int) (e : Ent) (w : World) (hl : EntsAt w ao lb lo l) (ht : Tabs w) (nl : l.length ≤ 100) (he : l[i]? = some e) (ok : ∀ e ∈ l, e.Ok) :
    Calls Tryd.prog 74 #[.slice ao l.length c, .int .i64 i, .int .i64 ho, .int .i64 y] w fun x w' => x = .returned (.int .i64 (wrongE ho y i (pDay 0 l i) (pDig ⟨#[]⟩ l i) e)) ∧ Below w.heap.size w w' := by
  have oe := ok e (List.mem_of_getElem? he)
  unfold wrongE
  by_cases h1 : e.body.size ≤ 2000
  · rw [if_neg (not_not_intro h1)]
    by_cases h_house : e.house = ho
    · by_cases h_seq : e.seq = (i : Int)
      · by_cases h2 : e.day < 0
        · rw [if_pos (by omega)]
          exact RWrong_day0 l ao lb lo c i ho y e w hl ht nl he h1 h_house h_seq h2
        by_cases h3 : 2000 < e.day
        · rw [if_pos (by omega)]
          exact RWrong_day1 l ao lb lo c i ho y e w hl ht nl he h1 h_house h_seq h2 h3
        rw [if_neg (by omega)]
        have hs := fun w ht => RSigned_ent y e w oe ht
        rcases i with _ | k
        · have e1 : pDay 0 l 0 = 0 := by unfold pDay; rfl
          have e2 : pDig ⟨#[]⟩ l 0 = ⟨#[]⟩ := by unfold pDig; rfl
          rw [e1, e2, if_neg (by omega)]
          by_cases h4 : e.prev = ⟨#[]⟩
          · rcases hsg : e.sgd y with _ | _
            · rw [if_pos (by simp)]
              rw [hsg] at hs
              exact RWrong_z_sig l ao lb lo c ho y e w hl ht nl he h1 h_house h_seq h2 h3 h4 hs
            · rw [if_neg (by simp [h4])]
              rw [hsg] at hs
              exact RWrong_z_ok l ao lb lo c ho y e w hl ht nl he h1 h_house h_seq h2 h3 h4 hs
          · rw [if_pos (fun h => h4 h.1)]
            exact RWrong_z_prev l ao lb lo c ho y e w hl ht nl he h1 h_house h_seq h2 h3 h4
        · obtain ⟨p, hp⟩ : ∃ p, l[k]? = some p := ⟨_, List.getElem?_eq_getElem (by have := (List.getElem?_eq_some_iff.1 he).1; omega)⟩
          rw [pDay_at l 0 k p hp, pDig_at l ⟨#[]⟩ k p hp]
          have hd := fun w ht => RDigest_ent p w (ok p (List.mem_of_getElem? hp)) ht
          have h_seq : e.seq = (k : Int) + 1 := by omega
          by_cases h5 : e.day < p.day
          · rw [if_pos (by omega)]
            exact RWrong_n_day l ao lb lo c k p ho y e w hl ht nl he h1 h_house h_seq h2 h3 hp h5
          rw [if_neg (by omega)]
          by_cases h4 : e.prev = p.dig
          · rcases hsg : e.sgd y with _ | _
            · rw [if_pos (by simp)]
              rw [hsg] at hs
              exact RWrong_n_sig l ao lb lo c k p ho y e w hl ht nl he p.dig h1 h_house h_seq h2 h3 h5 hp hd h4 hs
            · rw [if_neg (by simp [h4])]
              rw [hsg] at hs
              exact RWrong_n_ok l ao lb lo c k p ho y e w hl ht nl he p.dig h1 h_house h_seq h2 h3 h5 hp hd h4 hs
          · rw [if_pos (fun h => h4 h.1)]
            exact RWrong_n_prev l ao lb lo c k p ho y e w hl ht nl he p.dig h1 h_house h_seq h2 h3 h5 hp hd h4
      · rw [if_pos (fun h => h_seq h.2.1)]
        exact RWrong_seq l ao lb lo c i ho y e w hl ht nl he h1 h_house h_seq
    · rw [if_pos (fun h => h_house h.1)]
      exact RWrong_house l ao lb lo c i ho y e w hl ht nl he h1 h_house
  · rw [if_pos h1]
    exact RWrong_size l ao lb lo c i ho y e w hl ht nl he (by omega)
end Go.Proofs.YtpdbcahiipbhnaaDoor
