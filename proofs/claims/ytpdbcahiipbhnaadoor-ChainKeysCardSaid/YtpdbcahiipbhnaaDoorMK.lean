/- ChainKeys: the walk and the law. -/
import Derived.Test.YtpdbcahiipbhnaaDoorMQ
import Derived.Deep.QuietTactic
namespace Go.Proofs.YtpdbcahiipbhnaaDoor
open Go.RowKit

theorem keep_one {w0 w w' : World} {n0 : Nat} {o0 : Nat} {a : Ent} (l0 : n0 < w0.heap.size) (hb : Below w.heap.size w w') (H : w.cell? ⟨n0, o0, none⟩ = some (.int .i64 a.house) ∧ w.cell? ⟨n0, o0 + 1, none⟩ = some (.int .i64 a.seq) ∧ w.cell? ⟨n0, o0 + 2, none⟩ = some (.int .i64 a.day) ∧ w.cell? ⟨n0, o0 + 3, none⟩ = some (.string a.prev) ∧ w.cell? ⟨n0, o0 + 4, none⟩ = some (.string a.body) ∧ w.cell? ⟨n0, o0 + 5, none⟩ = some (.int .i64 a.r) ∧ w.cell? ⟨n0, o0 + 6, none⟩ = some (.int .i64 a.s) ∧ Trk w0 w) : w'.cell? ⟨n0, o0, none⟩ = some (.int .i64 a.house) ∧ w'.cell? ⟨n0, o0 + 1, none⟩ = some (.int .i64 a.seq) ∧ w'.cell? ⟨n0, o0 + 2, none⟩ = some (.int .i64 a.day) ∧ w'.cell? ⟨n0, o0 + 3, none⟩ = some (.string a.prev) ∧ w'.cell? ⟨n0, o0 + 4, none⟩ = some (.string a.body) ∧ w'.cell? ⟨n0, o0 + 5, none⟩ = some (.int .i64 a.r) ∧ w'.cell? ⟨n0, o0 + 6, none⟩ = some (.int .i64 a.s) ∧ Trk w0 w' :=
  ⟨(hb.cell (p := ⟨n0, o0, none⟩) (Nat.lt_of_lt_of_le l0 H.2.2.2.2.2.2.2.bel.size)).trans H.1, (hb.cell (p := ⟨n0, o0 + 1, none⟩) (Nat.lt_of_lt_of_le l0 H.2.2.2.2.2.2.2.bel.size)).trans H.2.1, (hb.cell (p := ⟨n0, o0 + 2, none⟩) (Nat.lt_of_lt_of_le l0 H.2.2.2.2.2.2.2.bel.size)).trans H.2.2.1, (hb.cell (p := ⟨n0, o0 + 3, none⟩) (Nat.lt_of_lt_of_le l0 H.2.2.2.2.2.2.2.bel.size)).trans H.2.2.2.1, (hb.cell (p := ⟨n0, o0 + 4, none⟩) (Nat.lt_of_lt_of_le l0 H.2.2.2.2.2.2.2.bel.size)).trans H.2.2.2.2.1, (hb.cell (p := ⟨n0, o0 + 5, none⟩) (Nat.lt_of_lt_of_le l0 H.2.2.2.2.2.2.2.bel.size)).trans H.2.2.2.2.2.1, (hb.cell (p := ⟨n0, o0 + 6, none⟩) (Nat.lt_of_lt_of_le l0 H.2.2.2.2.2.2.2.bel.size)).trans H.2.2.2.2.2.2.1, H.2.2.2.2.2.2.2.step hb⟩
theorem held_one {w0 w : World} {n0 : Nat} {o0 : Nat} {a : Ent} (H : w.cell? ⟨n0, o0, none⟩ = some (.int .i64 a.house) ∧ w.cell? ⟨n0, o0 + 1, none⟩ = some (.int .i64 a.seq) ∧ w.cell? ⟨n0, o0 + 2, none⟩ = some (.int .i64 a.day) ∧ w.cell? ⟨n0, o0 + 3, none⟩ = some (.string a.prev) ∧ w.cell? ⟨n0, o0 + 4, none⟩ = some (.string a.body) ∧ w.cell? ⟨n0, o0 + 5, none⟩ = some (.int .i64 a.r) ∧ w.cell? ⟨n0, o0 + 6, none⟩ = some (.int .i64 a.s) ∧ Trk w0 w) : Trk w0 w := H.2.2.2.2.2.2.2
theorem ini_one {w0 w : World} {n0 : Nat} {o0 : Nat} {a : Ent} (h0 : w.cell? ⟨n0, o0, none⟩ = some (.int .i64 a.house)) (h1 : w.cell? ⟨n0, o0 + 1, none⟩ = some (.int .i64 a.seq)) (h2 : w.cell? ⟨n0, o0 + 2, none⟩ = some (.int .i64 a.day)) (h3 : w.cell? ⟨n0, o0 + 3, none⟩ = some (.string a.prev)) (h4 : w.cell? ⟨n0, o0 + 4, none⟩ = some (.string a.body)) (h5 : w.cell? ⟨n0, o0 + 5, none⟩ = some (.int .i64 a.r)) (h6 : w.cell? ⟨n0, o0 + 6, none⟩ = some (.int .i64 a.s)) (ht : Trk w0 w) : w.cell? ⟨n0, o0, none⟩ = some (.int .i64 a.house) ∧ w.cell? ⟨n0, o0 + 1, none⟩ = some (.int .i64 a.seq) ∧ w.cell? ⟨n0, o0 + 2, none⟩ = some (.int .i64 a.day) ∧ w.cell? ⟨n0, o0 + 3, none⟩ = some (.string a.prev) ∧ w.cell? ⟨n0, o0 + 4, none⟩ = some (.string a.body) ∧ w.cell? ⟨n0, o0 + 5, none⟩ = some (.int .i64 a.r) ∧ w.cell? ⟨n0, o0 + 6, none⟩ = some (.int .i64 a.s) ∧ Trk w0 w :=
  ⟨h0, h1, h2, h3, h4, h5, h6, ht⟩

set_option maxHeartbeats 2000000 in
set_option maxRecDepth 100000 in
theorem keys_few (l : List Ent) (ao : Option Addr) (lb lo c : Nat) (ho y o : Int) (w : World) (hl : EntsAt w ao lb lo l) (ht : Tabs w) (nl : l.length ≤ 9223372036854775807) (f1 : fewE l 14 = false) :
    Calls Tryd.prog 17 #[.slice ao l.length c, .int .i64 ho, .int .i64 y, .int .i64 o] w fun e w' => e = .returned (.bool true) ∧ Below w.heap.size w w' := by
  have HL := Lib.hid hl
  have T0 := Lib.hid (Trk.start ht)
  clear hl ht
  go_enter Tryd.func17, Tryd.ntmps17
  go_wp2_with fail
  refine (head31 _ T0.out.tabs).mono ?_
  rintro e v1 ⟨rfl, hb⟩
  have T1 := Lib.hid (T0.out.step hb)
  replace HL := Lib.hid (HL.out.step hb)
  clear hb
  go_wp2_with fail
  have hx := Few_any l ao lb lo c 14 v1 nl HL.out
  rw [f1] at hx
  refine hx.mono ?_
  rintro e wx ⟨rfl, rfl⟩
  clear hx
  go_wp2_with fail
  go_ret
  exact ⟨rfl, T1.out.bel⟩
set_option maxHeartbeats 2000000 in
set_option maxRecDepth 100000 in
theorem keys_bad (l : List Ent) (ao : Option Addr) (lb lo c : Nat) (ho y o : Int) (w : World) (hl : EntsAt w ao lb lo l) (ht : Tabs w) (nl : l.length ≤ 9223372036854775807) (f1 : fewE l 14 = true) (x1 x2 : Int) (hCL : ∀ w, EntsAt w ao lb lo l → Tabs w → Calls Tryd.prog 38 #[.slice ao l.length c, .int .i64 ho, .int .i64 y] w fun e w' => e = .returned (.tuple #[.int .i64 x1, .int .i64 x2]) ∧ Below w.heap.size w w') (e1 : (x1 == 0) = false) :
    Calls Tryd.prog 17 #[.slice ao l.length c, .int .i64 ho, .int .i64 y, .int .i64 o] w fun e w' => e = .returned (.bool true) ∧ Below w.heap.size w w' := by
  have CL := Lib.hid hCL
  clear hCL
  have e1' : (x1 != 0) = true := by simp only [bne, e1]; rfl
  have HL := Lib.hid hl
  have T0 := Lib.hid (Trk.start ht)
  clear hl ht
  go_enter Tryd.func17, Tryd.ntmps17
  go_wp2_with fail
  refine (head31 _ T0.out.tabs).mono ?_
  rintro e v1 ⟨rfl, hb⟩
  have T1 := Lib.hid (T0.out.step hb)
  replace HL := Lib.hid (HL.out.step hb)
  clear hb
  go_wp2_with fail
  have hx := Few_any l ao lb lo c 14 v1 nl HL.out
  rw [f1] at hx
  refine hx.mono ?_
  rintro e wx ⟨rfl, rfl⟩
  clear hx
  go_wp2_with fail
  refine (CL.out _ HL.out T1.out.tabs).mono ?_
  rintro e v2 ⟨rfl, hb⟩
  have T2 := Lib.hid (T1.out.step hb)
  replace HL := Lib.hid (HL.out.step hb)
  clear hb
  go_wp2_with fail
  go_ret
  exact ⟨rfl, T2.out.bel⟩
set_option maxHeartbeats 2000000 in
set_option maxRecDepth 100000 in
theorem keys_lo (l : List Ent) (ao : Option Addr) (lb lo c : Nat) (ho y o : Int) (w : World) (hl : EntsAt w ao lb lo l) (ht : Tabs w) (nl : l.length ≤ 9223372036854775807) (f1 : fewE l 14 = true) (x1 x2 : Int) (hCL : ∀ w, EntsAt w ao lb lo l → Tabs w → Calls Tryd.prog 38 #[.slice ao l.length c, .int .i64 ho, .int .i64 y] w fun e w' => e = .returned (.tuple #[.int .i64 x1, .int .i64 x2]) ∧ Below w.heap.size w w') (e1 : (x1 == 0) = true) (e2 : decide (o < 1) = true) :
    Calls Tryd.prog 17 #[.slice ao l.length c, .int .i64 ho, .int .i64 y, .int .i64 o] w fun e w' => e = .returned (.bool true) ∧ Below w.heap.size w w' := by
  have CL := Lib.hid hCL
  clear hCL
  have e1' : (x1 != 0) = false := by simp only [bne, e1]; rfl
  have HL := Lib.hid hl
  have T0 := Lib.hid (Trk.start ht)
  clear hl ht
  go_enter Tryd.func17, Tryd.ntmps17
  go_wp2_with fail
  refine (head31 _ T0.out.tabs).mono ?_
  rintro e v1 ⟨rfl, hb⟩
  have T1 := Lib.hid (T0.out.step hb)
  replace HL := Lib.hid (HL.out.step hb)
  clear hb
  go_wp2_with fail
  have hx := Few_any l ao lb lo c 14 v1 nl HL.out
  rw [f1] at hx
  refine hx.mono ?_
  rintro e wx ⟨rfl, rfl⟩
  clear hx
  go_wp2_with fail
  refine (CL.out _ HL.out T1.out.tabs).mono ?_
  rintro e v2 ⟨rfl, hb⟩
  have T2 := Lib.hid (T1.out.step hb)
  replace HL := Lib.hid (HL.out.step hb)
  clear hb
  go_wp2_with fail
  go_ret
  exact ⟨rfl, T2.out.bel⟩
set_option maxHeartbeats 2000000 in
set_option maxRecDepth 100000 in
theorem keys_hi (l : List Ent) (ao : Option Addr) (lb lo c : Nat) (ho y o : Int) (w : World) (hl : EntsAt w ao lb lo l) (ht : Tabs w) (nl : l.length ≤ 9223372036854775807) (f1 : fewE l 14 = true) (x1 x2 : Int) (hCL : ∀ w, EntsAt w ao lb lo l → Tabs w → Calls Tryd.prog 38 #[.slice ao l.length c, .int .i64 ho, .int .i64 y] w fun e w' => e = .returned (.tuple #[.int .i64 x1, .int .i64 x2]) ∧ Below w.heap.size w w') (e1 : (x1 == 0) = true) (e2 : decide (o < 1) = false) (e3 : decide (2147483646 < o) = true) :
    Calls Tryd.prog 17 #[.slice ao l.length c, .int .i64 ho, .int .i64 y, .int .i64 o] w fun e w' => e = .returned (.bool true) ∧ Below w.heap.size w w' := by
  have CL := Lib.hid hCL
  clear hCL
  have e1' : (x1 != 0) = false := by simp only [bne, e1]; rfl
  have HL := Lib.hid hl
  have T0 := Lib.hid (Trk.start ht)
  clear hl ht
  go_enter Tryd.func17, Tryd.ntmps17
  go_wp2_with fail
  refine (head31 _ T0.out.tabs).mono ?_
  rintro e v1 ⟨rfl, hb⟩
  have T1 := Lib.hid (T0.out.step hb)
  replace HL := Lib.hid (HL.out.step hb)
  clear hb
  go_wp2_with fail
  have hx := Few_any l ao lb lo c 14 v1 nl HL.out
  rw [f1] at hx
  refine hx.mono ?_
  rintro e wx ⟨rfl, rfl⟩
  clear hx
  go_wp2_with fail
  refine (CL.out _ HL.out T1.out.tabs).mono ?_
  rintro e v2 ⟨rfl, hb⟩
  have T2 := Lib.hid (T1.out.step hb)
  replace HL := Lib.hid (HL.out.step hb)
  clear hb
  go_wp2_with fail
  go_ret
  exact ⟨rfl, T2.out.bel⟩
theorem all_next {l : List Ent} {P : Ent → Bool} {k : Nat} {a : Ent} (h : l[k]? = some a) : (l.take (k + 1)).all P = ((l.take k).all P && P a) := by
  rw [List.take_add_one, List.all_append, h]; simp
set_option maxHeartbeats 1600000 in
set_option maxRecDepth 100000 in
theorem keys_main (l : List Ent) (ao : Option Addr) (lb lo c : Nat) (ho y o : Int) (w : World) (hl : EntsAt w ao lb lo l) (ht : Tabs w) (f1 : fewE l 14 = true) (hCL : ∀ w, EntsAt w ao lb lo l → Tabs w → Calls Tryd.prog 38 #[.slice ao l.length c, .int .i64 ho, .int .i64 y] w fun e w' => e = .returned (.tuple #[.int .i64 0, .int .i64 (-1)]) ∧ Below w.heap.size w w') (x2 : Int) (hCO : ∀ w, EntsAt w ao lb lo l → Tabs w → Calls Tryd.prog 38 #[.slice ao l.length c, .int .i64 ho, .int .i64 o] w fun e w' => e = .returned (.tuple #[.int .i64 (if l.all (·.sgd o) then 0 else 17), .int .i64 x2]) ∧ Below w.heap.size w w') (ol : ∀ e ∈ l, e.Ok) (n3 : l.length ≤ 14) (e2 : decide (o < 1) = false) (e3 : decide (2147483646 < o) = false) :
    Calls Tryd.prog 17 #[.slice ao l.length c, .int .i64 ho, .int .i64 y, .int .i64 o] w fun e w' => e = .returned (.bool true) ∧ Below w.heap.size w w' := by
  have nl : l.length ≤ 9223372036854775807 := by omega
  have CO := Lib.hid hCO
  have OL := Lib.hid ol
  clear hCO ol
  have CL := Lib.hid hCL
  clear hCL
  have HL := Lib.hid hl
  have T0 := Lib.hid (Trk.start ht)
  clear hl ht
  go_enter Tryd.func17, Tryd.ntmps17
  go_wp2_with fail
  refine (head31 _ T0.out.tabs).mono ?_
  rintro e v1 ⟨rfl, hb⟩
  have T1 := Lib.hid (T0.out.step hb)
  replace HL := Lib.hid (HL.out.step hb)
  clear hb
  go_wp2_with fail
  have hx := Few_any l ao lb lo c 14 v1 nl HL.out
  rw [f1] at hx
  refine hx.mono ?_
  rintro e wx ⟨rfl, rfl⟩
  clear hx
  go_wp2_with fail
  refine (CL.out _ HL.out T1.out.tabs).mono ?_
  rintro e v2 ⟨rfl, hb⟩
  have T2 := Lib.hid (T1.out.step hb)
  replace HL := Lib.hid (HL.out.step hb)
  clear hb
  go_wp2_with fail
  go_loopg [12, 13] l.length (fun gk al i wr => ∃ k, k + gk = l.length ∧ i = .int .i64 (k : Nat) ∧ al = .bool ((l.take k).all (·.sgd o)) ∧ Trk w wr ∧ Below v2.heap.size v2 wr)
  case atStart => exact ⟨0, by omega, rfl, by rfl, T2.out, Below.refl _ _⟩
  case round =>
    obtain ⟨k, hk, rfl, rfl, tr, br⟩ := hrel
    have T4 := Lib.hid tr
    have L4 := Lib.hid (HL.out.step br)
    have B4 := Lib.hid br
    clear tr br
    by_cases hlt : k < l.length
    · obtain ⟨a, ha⟩ : ∃ a, l[k]? = some a := ⟨_, List.getElem?_eq_getElem (by omega)⟩
      obtain ⟨rfl, la⟩ := L4.out.ao (by omega)
      have A4 := Lib.hid (L4.out.at_ k a ha)
      have i1 : (0 : Int) ≤ (k : Int) := by omega
      have i3 : k < l.length := by omega
      have i5 : (k : Int) < (l.length : Int) := by omega
      have hnx := all_next (P := (·.sgd o)) ha
      have oa := OL.out a (List.mem_of_getElem? ha)
      generalize hA : (l.take k).all (·.sgd o) = al at *
      have HNX := Lib.hid hnx
      clear hnx hA ha
      obtain ⟨a0, a1, a2, a3, a4, a5, a6⟩ := A4.out
      cases al with
      | false =>
        go_wp2_with fail
        go_quiet (fail)
        go_wp2_with fail
        go_roundg (gk - 1)
        case measure => omega
        case rel => exact ⟨k + 1, by omega, by go_num, by rw [HNX.out]; rfl, T4.out.step (drewN_below wr nq), B4.out.trans ((drewN_below wr nq).mono B4.out.size)⟩
      | true =>
        have FT := Lib.hid (fun w ht => Text_raw a.house a.seq a.day a.prev a.body a.r a.s w oa.house oa.seq oa.day oa.prev oa.body ht)
        have ts := txtE_size a.house a.seq a.day a.prev a.body oa.house oa.seq oa.day oa.prev oa.body
        have hV := fun w ht => Verify_any o a.r a.s (txtE a.house a.seq a.day a.prev a.body) w (by omega) ht
        rw [← sgdE_eq] at hV
        have FV := Lib.hid hV
        generalize hsv : sgdE o a.house a.seq a.day a.prev a.body a.r a.s = sv at *
        have HSV : Hid (a.sgd o = sv) := Lib.hid hsv
        clear hsv
        generalize txtE a.house a.seq a.day a.prev a.body = tx at *
        clear hV ts oa
        have T5 := T4
        have A5 : Hid (AtE wr lb (lo + k * 7) a) := Lib.hid A4.out
        have HB5 := B4
        clear T4 A4 B4 OL CL CO L4
        go_wp2_with fail
        generalize wr = w5 at *
        have HINI := Lib.hid (ini_one a0 a1 a2 a3 a4 a5 a6 (Trk.start T5.out.tabs))
        clear a0 a1 a2 a3 a4 a5 a6
        go_region_held_law (fun w' => w'.cell? ⟨lb, lo + k * 7, none⟩ = some (.int .i64 a.house) ∧ w'.cell? ⟨lb, lo + k * 7 + 1, none⟩ = some (.int .i64 a.seq) ∧ w'.cell? ⟨lb, lo + k * 7 + 2, none⟩ = some (.int .i64 a.day) ∧ w'.cell? ⟨lb, lo + k * 7 + 3, none⟩ = some (.string a.prev) ∧ w'.cell? ⟨lb, lo + k * 7 + 4, none⟩ = some (.string a.body) ∧ w'.cell? ⟨lb, lo + k * 7 + 5, none⟩ = some (.int .i64 a.r) ∧ w'.cell? ⟨lb, lo + k * 7 + 6, none⟩ = some (.int .i64 a.s) ∧ Trk w5 w') (first | (with_reducible assumption) | (with_reducible exact HINI.out) | (with_reducible refine keep_one la hba ?_; with_reducible assumption) | (with_reducible refine keep_one la hbb ?_; with_reducible assumption) | (refine keep_one la (drewN_below _ 1) ?_; first | (with_reducible assumption) | (with_reducible exact HINI.out))) (first | (go_at_call 43; with_reducible refine (FT.out _ ?TT).mono ?_; (case TT => exact (by first | exact (held_one (by assumption)).tabs | exact T5.out.tabs | exact T5.out.tabs.drew)); rintro e wa ⟨rfl, hba⟩) | (go_at_call 48; with_reducible refine (FV.out _ ?TT).mono ?_; (case TT => exact (by first | exact (held_one (by assumption)).tabs | exact T5.out.tabs | exact T5.out.tabs.drew)); rintro e wb ⟨rfl, hbb⟩))
        all_goals
          have HFF := Lib.hid (held_one (n0 := lb) (o0 := lo + k * 7) (a := a) (w0 := w5) (by assumption))
          go_wp2_with fail
          go_roundg (gk - 1)
          case measure => omega
          case rel => exact ⟨k + 1, by omega, by go_num, by rw [HNX.out, HSV.out]; rfl, ⟨HFF.out.tabs, T5.out.bel.trans (HFF.out.bel.mono T5.out.bel.size)⟩, HB5.out.trans (HFF.out.bel.mono HB5.out.size)⟩
    · obtain rfl : gk = 0 := by omega
      obtain rfl : k = l.length := by omega
      rw [List.take_length]
      go_wp2_with fail
      refine (CO.out _ L4.out T4.out.tabs).mono ?_
      rintro e v5 ⟨rfl, hb⟩
      have T5 := Lib.hid (T4.out.step hb)
      clear hb
      cases l.all (·.sgd o)
      all_goals
        go_wp2_with fail
        go_ret
        exact ⟨rfl, T5.out.bel⟩
theorem keys_good (ho y o : Int) : ∀ (l : List Ent) (i : Nat) (pd : Int) (pv : ByteArray), Good ho y i pd pv l → (chkFrom ho o i pd pv l).1 = if l.all (·.sgd o) then 0 else 17
  | [], _, _, _, _ => rfl
  | e :: l, i, pd, pv, h => by
    obtain ⟨h1, h2, h3, h4, h5⟩ := wrongE_parts h.1
    unfold chkFrom
    rcases hs : e.sgd o with _ | _
    · have : wrongE ho o i pd pv e = 17 := by
        unfold wrongE
        rw [if_neg (by simpa using h1), if_neg (by simpa using h2), if_neg (by simpa using h3), if_pos (by simp [hs])]
      rw [if_neg (by rw [this]; decide), List.all_cons, hs, this]; rfl
    · have : wrongE ho o i pd pv e = 0 := by
        unfold wrongE
        rw [if_neg (by simpa using h1), if_neg (by simpa using h2), if_neg (by simpa using h3), if_neg (by simp [hs, h4])]
      rw [if_pos this, List.all_cons, hs, Bool.true_and]
      exact keys_good ho y o l _ _ _ h.2
theorem law_ChainKeys (l : List Ent) (ao : Option Addr) (lb lo c : Nat) (ho y o : Int) (w : World) (hl : EntsAt w ao lb lo l) (il : ∀ e ∈ l, e.I) (nl : l.length ≤ 9223372036854775807) (_ : (Lit.int .i64 ho).wf = true) (_ : (Lit.int .i64 y).wf = true) (_ : (Lit.int .i64 o).wf = true) (ht : Tabs w) :
    Calls Tryd.prog 17 #[.slice ao l.length c, .int .i64 ho, .int .i64 y, .int .i64 o] w fun e w' => e = .returned (.bool true) ∧ Below w.heap.size w w' := by
  rcases f1 : fewE l 14 with _ | _
  · exact keys_few l ao lb lo c ho y o w hl ht nl f1
  have l1 := few_len f1
  have ol := few_ok f1 il
  have hCL := fun w h ht => Check_any ho y l ao lb lo c w (by omega) ol h ht
  have hCO := fun w h ht => Check_any ho o l ao lb lo c w (by omega) ol h ht
  by_cases g1 : (chkE ho y l).1 = 0
  · have k1 := chkE_good g1
    by_cases c1 : o < 1
    · exact keys_lo l ao lb lo c ho y o w hl ht nl f1 _ _ hCL (by rw [g1]; rfl) (decide_eq_true c1)
    by_cases c2 : 2147483646 < o
    · exact keys_hi l ao lb lo c ho y o w hl ht nl f1 _ _ hCL (by rw [g1]; rfl) (decide_eq_false c1) (decide_eq_true c2)
    have kg := keys_good ho y o l 0 0 _ k1.2
    rw [chkE_of k1.1 k1.2] at hCL
    rw [chkE_eq, if_neg (by omega)] at hCO
    rw [kg] at hCO
    exact keys_main l ao lb lo c ho y o w hl ht f1 hCL _ hCO ol (by omega) (decide_eq_false c1) (decide_eq_false c2)
  · exact keys_bad l ao lb lo c ho y o w hl ht nl f1 _ _ hCL (by simpa using g1)
end Go.Proofs.YtpdbcahiipbhnaaDoor
