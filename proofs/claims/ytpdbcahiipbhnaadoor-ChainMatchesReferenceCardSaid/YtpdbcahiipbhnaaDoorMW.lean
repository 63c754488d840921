/- ChainMatchesReference: the walk and the law. -/
import Derived.Test.YtpdbcahiipbhnaaDoorMZ
namespace Go.Proofs.YtpdbcahiipbhnaaDoor
open Go.RowKit

set_option maxHeartbeats 4000000 in
theorem RFork_any (a b : Ent) (y : Int) (w : World) (ha : a.Ok) (hb : b.Ok) (ht : Tabs w) :
    Calls Tryd.prog 46 #[.agg #[.int .i64 a.house, .int .i64 a.seq, .int .i64 a.day, .string a.prev, .string a.body, .int .i64 a.r, .int .i64 a.s], .agg #[.int .i64 b.house, .int .i64 b.seq, .int .i64 b.day, .string b.prev, .string b.body, .int .i64 b.r, .int .i64 b.s], .int .i64 y] w
      fun e w' => e = .returned (.bool (frkE y a b)) ∧ Below w.heap.size w w' := by
  have HE := Lib.hid (frkE_eq y a b)
  have hq := run_neq_ent a b
  have SA := Lib.hid (fun w ht => RSigned_ent y a w ha ht)
  have SB := Lib.hid (fun w ht => RSigned_ent y b w hb ht)
  obtain ⟨hm1, hm2, hT, hZ⟩ := two_boxes w a b ht
  have HM1 := Lib.hid hm1
  have HM2 := Lib.hid hm2
  have HT := Lib.hid hT
  have HZ := Lib.hid hZ
  clear hm1 hm2 hT hZ ht ha hb
  obtain ⟨a0, a1, a2, a3, a4, a5, a6⟩ := HM1.out
  obtain ⟨b0, b1, b2, b3, b4, b5, b6⟩ := HM2.out
  by_cases h1 : eqE a b = true
  · rw [h1] at hq
    go_enter Tryd.func46, Tryd.ntmps46
    go_wp2_with fail
    go_ret
    exact ⟨by rw [HE.out, h1]; rfl, HT.out.bel⟩
  replace h1 : eqE a b = false := by simpa using h1
  rw [h1] at hq
  by_cases h2 : a.house = b.house
  · have e2 : (a.house == b.house) = true := by simpa using h2
    have e2' : (a.house != b.house) = false := by simpa using h2
    have H2 := Lib.hid h2
    clear h2
    by_cases h3 : a.seq = b.seq
    · have e3 : (a.seq == b.seq) = true := by simpa using h3
      have e3' : (a.seq != b.seq) = false := by simpa using h3
      have H3 := Lib.hid h3
      clear h3
      rcases hs : a.sgd y with _ | _
      · rw [hs] at SA
        have HH := Lib.hid hs
        clear hs
        go_enter Tryd.func46, Tryd.ntmps46
        go_wp2_with fail
        refine (SA.out _ HT.out.tabs).mono ?_
        rintro e w1 ⟨rfl, hb⟩
        have HB := Lib.hid (HT.out.step hb)
        clear hb
        go_wp2_with fail
        go_ret
        exact ⟨by rw [HE.out, HH.out]; simp, HB.out.bel⟩
      · rw [hs] at SA
        have HH := Lib.hid hs
        clear hs
        go_enter Tryd.func46, Tryd.ntmps46
        go_wp2_with fail
        refine (SA.out _ HT.out.tabs).mono ?_
        rintro e w1 ⟨rfl, hb⟩
        have HB := Lib.hid (HT.out.step hb)
        have HM3 := Lib.hid (keep7 (by rw [HZ.out]; omega) hb HM2.out)
        clear hb a0 a1 a2 a3 a4 a5 a6 b0 b1 b2 b3 b4 b5 b6
        obtain ⟨b0, b1, b2, b3, b4, b5, b6⟩ := HM3.out
        go_wp2_with fail
        refine (SB.out _ HB.out.tabs).mono ?_
        rintro e w2 ⟨rfl, hb⟩
        have HB2 := Lib.hid (HB.out.step hb)
        clear hb
        go_wp2_with fail
        go_ret
        exact ⟨by rw [HE.out, HH.out, h1, decide_eq_true H2.out, decide_eq_true H3.out]; rfl, HB2.out.bel⟩
    · have HH := Lib.hid h3
      have e3 : (a.seq == b.seq) = false := by simpa using h3
      have e3' : (a.seq != b.seq) = true := by simpa using h3
      clear h3
      go_enter Tryd.func46, Tryd.ntmps46
      go_wp2_with fail
      go_ret
      exact ⟨by rw [HE.out, decide_eq_false HH.out]; simp, HT.out.bel⟩
  · have HH := Lib.hid h2
    have e2 : (a.house == b.house) = false := by simpa using h2
    have e2' : (a.house != b.house) = true := by simpa using h2
    clear h2
    go_enter Tryd.func46, Tryd.ntmps46
    go_wp2_with fail
    go_ret
    exact ⟨by rw [HE.out, decide_eq_false HH.out]; simp, HT.out.bel⟩
/-- The list that an Append returns. -/
def appM (c : Int) (m : List Ent) : List Ent := if c = 0 then m else []
theorem AppRes.any {w w' : World} {c : Int} {m : List Ent} {e : Ending} (h : AppRes w c m e w') : ∃ ao cap lb lo, e = .returned (.tuple #[.slice ao (appM c m).length cap, .int .i64 c]) ∧ EntsAt w' ao lb lo (appM c m) ∧ Below w.heap.size w w' := by
  unfold appM
  rcases h with ⟨h, rfl, hb⟩ | ⟨h, ao, cap, lb, lo, rfl, hE, hb, _⟩
  · rw [if_neg h]; exact ⟨none, 0, 0, 0, rfl, ⟨fun h => by simp at h, fun i e he => by simp at he⟩, hb⟩
  · rw [if_pos h]; exact ⟨ao, cap, lb, lo, by rw [h], hE, hb⟩
theorem keep_mr {w0 w w' : World} {n0 n1 n2 : Nat} {o0 : Nat} {a b : Ent} {kp : Int} (l0 : n0 < w0.heap.size) (l1 : n1 < w0.heap.size) (l2 : n2 < w0.heap.size) (hb : Below w.heap.size w w') (H : w.cell? ⟨n0, o0, none⟩ = some (.int .i64 a.house) ∧ w.cell? ⟨n0, o0 + 1, none⟩ = some (.int .i64 a.seq) ∧ w.cell? ⟨n0, o0 + 2, none⟩ = some (.int .i64 a.day) ∧ w.cell? ⟨n0, o0 + 3, none⟩ = some (.string a.prev) ∧ w.cell? ⟨n0, o0 + 4, none⟩ = some (.string a.body) ∧ w.cell? ⟨n0, o0 + 5, none⟩ = some (.int .i64 a.r) ∧ w.cell? ⟨n0, o0 + 6, none⟩ = some (.int .i64 a.s) ∧ w.cell? ⟨n1, 0, none⟩ = some (.int .i64 b.house) ∧ w.cell? ⟨n1, 1, none⟩ = some (.int .i64 b.seq) ∧ w.cell? ⟨n1, 2, none⟩ = some (.int .i64 b.day) ∧ w.cell? ⟨n1, 3, none⟩ = some (.string b.prev) ∧ w.cell? ⟨n1, 4, none⟩ = some (.string b.body) ∧ w.cell? ⟨n1, 5, none⟩ = some (.int .i64 b.r) ∧ w.cell? ⟨n1, 6, none⟩ = some (.int .i64 b.s) ∧ w.cell? ⟨n2, 2, none⟩ = some (.int .i64 kp) ∧ Trk w0 w) : w'.cell? ⟨n0, o0, none⟩ = some (.int .i64 a.house) ∧ w'.cell? ⟨n0, o0 + 1, none⟩ = some (.int .i64 a.seq) ∧ w'.cell? ⟨n0, o0 + 2, none⟩ = some (.int .i64 a.day) ∧ w'.cell? ⟨n0, o0 + 3, none⟩ = some (.string a.prev) ∧ w'.cell? ⟨n0, o0 + 4, none⟩ = some (.string a.body) ∧ w'.cell? ⟨n0, o0 + 5, none⟩ = some (.int .i64 a.r) ∧ w'.cell? ⟨n0, o0 + 6, none⟩ = some (.int .i64 a.s) ∧ w'.cell? ⟨n1, 0, none⟩ = some (.int .i64 b.house) ∧ w'.cell? ⟨n1, 1, none⟩ = some (.int .i64 b.seq) ∧ w'.cell? ⟨n1, 2, none⟩ = some (.int .i64 b.day) ∧ w'.cell? ⟨n1, 3, none⟩ = some (.string b.prev) ∧ w'.cell? ⟨n1, 4, none⟩ = some (.string b.body) ∧ w'.cell? ⟨n1, 5, none⟩ = some (.int .i64 b.r) ∧ w'.cell? ⟨n1, 6, none⟩ = some (.int .i64 b.s) ∧ w'.cell? ⟨n2, 2, none⟩ = some (.int .i64 kp) ∧ Trk w0 w' :=
  ⟨(hb.cell (p := ⟨n0, o0, none⟩) (Nat.lt_of_lt_of_le l0 H.2.2.2.2.2.2.2.2.2.2.2.2.2.2.2.bel.size)).trans H.1, (hb.cell (p := ⟨n0, o0 + 1, none⟩) (Nat.lt_of_lt_of_le l0 H.2.2.2.2.2.2.2.2.2.2.2.2.2.2.2.bel.size)).trans H.2.1, (hb.cell (p := ⟨n0, o0 + 2, none⟩) (Nat.lt_of_lt_of_le l0 H.2.2.2.2.2.2.2.2.2.2.2.2.2.2.2.bel.size)).trans H.2.2.1, (hb.cell (p := ⟨n0, o0 + 3, none⟩) (Nat.lt_of_lt_of_le l0 H.2.2.2.2.2.2.2.2.2.2.2.2.2.2.2.bel.size)).trans H.2.2.2.1, (hb.cell (p := ⟨n0, o0 + 4, none⟩) (Nat.lt_of_lt_of_le l0 H.2.2.2.2.2.2.2.2.2.2.2.2.2.2.2.bel.size)).trans H.2.2.2.2.1, (hb.cell (p := ⟨n0, o0 + 5, none⟩) (Nat.lt_of_lt_of_le l0 H.2.2.2.2.2.2.2.2.2.2.2.2.2.2.2.bel.size)).trans H.2.2.2.2.2.1, (hb.cell (p := ⟨n0, o0 + 6, none⟩) (Nat.lt_of_lt_of_le l0 H.2.2.2.2.2.2.2.2.2.2.2.2.2.2.2.bel.size)).trans H.2.2.2.2.2.2.1, (hb.cell (p := ⟨n1, 0, none⟩) (Nat.lt_of_lt_of_le l1 H.2.2.2.2.2.2.2.2.2.2.2.2.2.2.2.bel.size)).trans H.2.2.2.2.2.2.2.1, (hb.cell (p := ⟨n1, 1, none⟩) (Nat.lt_of_lt_of_le l1 H.2.2.2.2.2.2.2.2.2.2.2.2.2.2.2.bel.size)).trans H.2.2.2.2.2.2.2.2.1, (hb.cell (p := ⟨n1, 2, none⟩) (Nat.lt_of_lt_of_le l1 H.2.2.2.2.2.2.2.2.2.2.2.2.2.2.2.bel.size)).trans H.2.2.2.2.2.2.2.2.2.1, (hb.cell (p := ⟨n1, 3, none⟩) (Nat.lt_of_lt_of_le l1 H.2.2.2.2.2.2.2.2.2.2.2.2.2.2.2.bel.size)).trans H.2.2.2.2.2.2.2.2.2.2.1, (hb.cell (p := ⟨n1, 4, none⟩) (Nat.lt_of_lt_of_le l1 H.2.2.2.2.2.2.2.2.2.2.2.2.2.2.2.bel.size)).trans H.2.2.2.2.2.2.2.2.2.2.2.1, (hb.cell (p := ⟨n1, 5, none⟩) (Nat.lt_of_lt_of_le l1 H.2.2.2.2.2.2.2.2.2.2.2.2.2.2.2.bel.size)).trans H.2.2.2.2.2.2.2.2.2.2.2.2.1, (hb.cell (p := ⟨n1, 6, none⟩) (Nat.lt_of_lt_of_le l1 H.2.2.2.2.2.2.2.2.2.2.2.2.2.2.2.bel.size)).trans H.2.2.2.2.2.2.2.2.2.2.2.2.2.1, (hb.cell (p := ⟨n2, 2, none⟩) (Nat.lt_of_lt_of_le l2 H.2.2.2.2.2.2.2.2.2.2.2.2.2.2.2.bel.size)).trans H.2.2.2.2.2.2.2.2.2.2.2.2.2.2.1, H.2.2.2.2.2.2.2.2.2.2.2.2.2.2.2.step hb⟩
theorem held_mr {w0 w : World} {n0 n1 n2 : Nat} {o0 : Nat} {a b : Ent} {kp : Int} (H : w.cell? ⟨n0, o0, none⟩ = some (.int .i64 a.house) ∧ w.cell? ⟨n0, o0 + 1, none⟩ = some (.int .i64 a.seq) ∧ w.cell? ⟨n0, o0 + 2, none⟩ = some (.int .i64 a.day) ∧ w.cell? ⟨n0, o0 + 3, none⟩ = some (.string a.prev) ∧ w.cell? ⟨n0, o0 + 4, none⟩ = some (.string a.body) ∧ w.cell? ⟨n0, o0 + 5, none⟩ = some (.int .i64 a.r) ∧ w.cell? ⟨n0, o0 + 6, none⟩ = some (.int .i64 a.s) ∧ w.cell? ⟨n1, 0, none⟩ = some (.int .i64 b.house) ∧ w.cell? ⟨n1, 1, none⟩ = some (.int .i64 b.seq) ∧ w.cell? ⟨n1, 2, none⟩ = some (.int .i64 b.day) ∧ w.cell? ⟨n1, 3, none⟩ = some (.string b.prev) ∧ w.cell? ⟨n1, 4, none⟩ = some (.string b.body) ∧ w.cell? ⟨n1, 5, none⟩ = some (.int .i64 b.r) ∧ w.cell? ⟨n1, 6, none⟩ = some (.int .i64 b.s) ∧ w.cell? ⟨n2, 2, none⟩ = some (.int .i64 kp) ∧ Trk w0 w) : Trk w0 w := H.2.2.2.2.2.2.2.2.2.2.2.2.2.2.2
theorem ini_mr {w0 w : World} {n0 n1 n2 : Nat} {o0 : Nat} {a b : Ent} {kp : Int} (h0 : w.cell? ⟨n0, o0, none⟩ = some (.int .i64 a.house)) (h1 : w.cell? ⟨n0, o0 + 1, none⟩ = some (.int .i64 a.seq)) (h2 : w.cell? ⟨n0, o0 + 2, none⟩ = some (.int .i64 a.day)) (h3 : w.cell? ⟨n0, o0 + 3, none⟩ = some (.string a.prev)) (h4 : w.cell? ⟨n0, o0 + 4, none⟩ = some (.string a.body)) (h5 : w.cell? ⟨n0, o0 + 5, none⟩ = some (.int .i64 a.r)) (h6 : w.cell? ⟨n0, o0 + 6, none⟩ = some (.int .i64 a.s)) (h7 : w.cell? ⟨n1, 0, none⟩ = some (.int .i64 b.house)) (h8 : w.cell? ⟨n1, 1, none⟩ = some (.int .i64 b.seq)) (h9 : w.cell? ⟨n1, 2, none⟩ = some (.int .i64 b.day)) (h10 : w.cell? ⟨n1, 3, none⟩ = some (.string b.prev)) (h11 : w.cell? ⟨n1, 4, none⟩ = some (.string b.body)) (h12 : w.cell? ⟨n1, 5, none⟩ = some (.int .i64 b.r)) (h13 : w.cell? ⟨n1, 6, none⟩ = some (.int .i64 b.s)) (h14 : w.cell? ⟨n2, 2, none⟩ = some (.int .i64 kp)) (ht : Trk w0 w) : w.cell? ⟨n0, o0, none⟩ = some (.int .i64 a.house) ∧ w.cell? ⟨n0, o0 + 1, none⟩ = some (.int .i64 a.seq) ∧ w.cell? ⟨n0, o0 + 2, none⟩ = some (.int .i64 a.day) ∧ w.cell? ⟨n0, o0 + 3, none⟩ = some (.string a.prev) ∧ w.cell? ⟨n0, o0 + 4, none⟩ = some (.string a.body) ∧ w.cell? ⟨n0, o0 + 5, none⟩ = some (.int .i64 a.r) ∧ w.cell? ⟨n0, o0 + 6, none⟩ = some (.int .i64 a.s) ∧ w.cell? ⟨n1, 0, none⟩ = some (.int .i64 b.house) ∧ w.cell? ⟨n1, 1, none⟩ = some (.int .i64 b.seq) ∧ w.cell? ⟨n1, 2, none⟩ = some (.int .i64 b.day) ∧ w.cell? ⟨n1, 3, none⟩ = some (.string b.prev) ∧ w.cell? ⟨n1, 4, none⟩ = some (.string b.body) ∧ w.cell? ⟨n1, 5, none⟩ = some (.int .i64 b.r) ∧ w.cell? ⟨n1, 6, none⟩ = some (.int .i64 b.s) ∧ w.cell? ⟨n2, 2, none⟩ = some (.int .i64 kp) ∧ Trk w0 w :=
  ⟨h0, h1, h2, h3, h4, h5, h6, h7, h8, h9, h10, h11, h12, h13, h14, ht⟩
set_option maxHeartbeats 4000000 in
set_option maxRecDepth 100000 in
theorem match_few (l : List Ent) (ao : Option Addr) (lb lo c : Nat) (kh ks kp kd : Int) (kb : ByteArray) (w : World) (hl : EntsAt w ao lb lo l) (ht : Tabs w) (nl : l.length ≤ 9223372036854775807) (f1 : fewE l 14 = false) :
    Calls Tryd.prog 10 #[.slice ao l.length c, .agg #[.int .i64 kh, .int .i64 ks, .int .i64 kp, .int .i64 kd, .string kb]] w fun e w' => e = .returned (.bool true) ∧ Below w.heap.size w w' := by
  have T0 := Lib.hid ((Trk.start ht).alloc (.cells #[.int .i64 kh, .int .i64 ks, .int .i64 kp, .int .i64 kd, .string kb] 53))
  have HL := Lib.hid (hl.step (alloc_below w (.cells #[.int .i64 kh, .int .i64 ks, .int .i64 kp, .int .i64 kd, .string kb] 53)))
  have HK := Lib.hid (AtK.new w kh ks kp kd kb 53)
  have hw0 : w.heap.size < (w.alloc (.cells #[.int .i64 kh, .int .i64 ks, .int .i64 kp, .int .i64 kd, .string kb] 53)).heap.size := by simp
  clear hl ht
  go_enter Tryd.func10, Tryd.ntmps10
  go_wp2_with fail
  generalize w.alloc (.cells #[.int .i64 kh, .int .i64 ks, .int .i64 kp, .int .i64 kd, .string kb] 53) = w0 at *
  refine (head31 _ T0.out.tabs).mono ?_
  rintro e v1 ⟨rfl, hb⟩
  have T1 := Lib.hid (T0.out.step hb)
  replace HL := Lib.hid (HL.out.step hb)
  replace HK := Lib.hid (HK.out.keep hw0 hb)
  have hw1 : w.heap.size < v1.heap.size := Nat.lt_of_lt_of_le hw0 hb.size
  clear hb T0 hw0
  obtain ⟨k0, k1, k2, k3, k4⟩ := HK.out
  go_wp2_with fail
  have hx := Few_any l ao lb lo c 14 v1 nl HL.out
  rw [f1] at hx
  refine hx.mono ?_
  rintro e wx ⟨rfl, rfl⟩
  clear hx
  go_wp2_with fail
  go_ret
  exact ⟨rfl, T1.out.bel⟩
set_option maxHeartbeats 4000000 in
set_option maxRecDepth 100000 in
theorem match_big (l : List Ent) (ao : Option Addr) (lb lo c : Nat) (kh ks kp kd : Int) (kb : ByteArray) (w : World) (hl : EntsAt w ao lb lo l) (ht : Tabs w) (nl : l.length ≤ 9223372036854775807) (f1 : fewE l 14 = true) (e1 : 2100 < kb.size) :
    Calls Tryd.prog 10 #[.slice ao l.length c, .agg #[.int .i64 kh, .int .i64 ks, .int .i64 kp, .int .i64 kd, .string kb]] w fun e w' => e = .returned (.bool true) ∧ Below w.heap.size w w' := by
  have e1' : (2100 : Int) < (kb.size : Int) := by omega
  have T0 := Lib.hid ((Trk.start ht).alloc (.cells #[.int .i64 kh, .int .i64 ks, .int .i64 kp, .int .i64 kd, .string kb] 53))
  have HL := Lib.hid (hl.step (alloc_below w (.cells #[.int .i64 kh, .int .i64 ks, .int .i64 kp, .int .i64 kd, .string kb] 53)))
  have HK := Lib.hid (AtK.new w kh ks kp kd kb 53)
  have hw0 : w.heap.size < (w.alloc (.cells #[.int .i64 kh, .int .i64 ks, .int .i64 kp, .int .i64 kd, .string kb] 53)).heap.size := by simp
  clear hl ht
  go_enter Tryd.func10, Tryd.ntmps10
  go_wp2_with fail
  generalize w.alloc (.cells #[.int .i64 kh, .int .i64 ks, .int .i64 kp, .int .i64 kd, .string kb] 53) = w0 at *
  refine (head31 _ T0.out.tabs).mono ?_
  rintro e v1 ⟨rfl, hb⟩
  have T1 := Lib.hid (T0.out.step hb)
  replace HL := Lib.hid (HL.out.step hb)
  replace HK := Lib.hid (HK.out.keep hw0 hb)
  have hw1 : w.heap.size < v1.heap.size := Nat.lt_of_lt_of_le hw0 hb.size
  clear hb T0 hw0
  obtain ⟨k0, k1, k2, k3, k4⟩ := HK.out
  go_wp2_with fail
  have hx := Few_any l ao lb lo c 14 v1 nl HL.out
  rw [f1] at hx
  refine hx.mono ?_
  rintro e wx ⟨rfl, rfl⟩
  clear hx
  go_wp2_with fail
  go_ret
  exact ⟨rfl, T1.out.bel⟩
set_option maxHeartbeats 4000000 in
set_option maxRecDepth 100000 in
theorem match_main (l : List Ent) (ao : Option Addr) (lb lo c : Nat) (kh ks kp kd : Int) (kb : ByteArray) (w : World) (hl : EntsAt w ao lb lo l) (ht : Tabs w) (nl : l.length ≤ 9223372036854775807) (f1 : fewE l 14 = true) (e1 : kb.size ≤ 2100) (l14 : l.length ≤ 14) (x1 x2 g : Int) (mm : List Ent) (hmm : mm.length ≤ 9223372036854775807) (hCL : ∀ w, EntsAt w ao lb lo l → Tabs w → Calls Tryd.prog 38 #[.slice ao l.length c, .int .i64 kh, .int .i64 kp] w fun e w' => e = .returned (.tuple #[.int .i64 x1, .int .i64 x2]) ∧ Below w.heap.size w w') (hRC : ∀ w, EntsAt w ao lb lo l → Tabs w → Calls Tryd.prog 39 #[.slice ao l.length c, .int .i64 kh, .int .i64 kp] w fun e w' => e = .returned (.tuple #[.int .i64 x1, .int .i64 x2]) ∧ Below w.heap.size w w') (hAL : ∀ w, EntsAt w ao lb lo l → Tabs w → Calls Tryd.prog 40 #[.slice ao l.length c, .int .i64 kh, .int .i64 ks, .int .i64 kd, .string kb] w fun e w' => ∃ ao cap lb lo, e = .returned (.tuple #[.slice ao mm.length cap, .int .i64 g]) ∧ EntsAt w' ao lb lo mm ∧ Below w.heap.size w w') (hAR : ∀ w, EntsAt w ao lb lo l → Tabs w → Calls Tryd.prog 41 #[.slice ao l.length c, .int .i64 kh, .int .i64 ks, .int .i64 kd, .string kb] w fun e w' => ∃ ao cap lb lo, e = .returned (.tuple #[.slice ao mm.length cap, .int .i64 g]) ∧ EntsAt w' ao lb lo mm ∧ Below w.heap.size w w') (ol : ∀ e ∈ l, e.Ok) :
    Calls Tryd.prog 10 #[.slice ao l.length c, .agg #[.int .i64 kh, .int .i64 ks, .int .i64 kp, .int .i64 kd, .string kb]] w fun e w' => e = .returned (.bool true) ∧ Below w.heap.size w w' := by
  have e1' : ¬ (2100 : Int) < (kb.size : Int) := by omega
  have e1'' : ¬ 2100 < kb.size := by omega
  clear e1
  have CL := Lib.hid hCL
  have RC := Lib.hid hRC
  have AL := Lib.hid hAL
  have AR := Lib.hid hAR
  have OL := Lib.hid ol
  clear hCL hRC hAL hAR ol
  have T0 := Lib.hid ((Trk.start ht).alloc (.cells #[.int .i64 kh, .int .i64 ks, .int .i64 kp, .int .i64 kd, .string kb] 53))
  have HL := Lib.hid (hl.step (alloc_below w (.cells #[.int .i64 kh, .int .i64 ks, .int .i64 kp, .int .i64 kd, .string kb] 53)))
  have HK := Lib.hid (AtK.new w kh ks kp kd kb 53)
  have hw0 : w.heap.size < (w.alloc (.cells #[.int .i64 kh, .int .i64 ks, .int .i64 kp, .int .i64 kd, .string kb] 53)).heap.size := by simp
  clear hl ht
  go_enter Tryd.func10, Tryd.ntmps10
  go_wp2_with fail
  generalize w.alloc (.cells #[.int .i64 kh, .int .i64 ks, .int .i64 kp, .int .i64 kd, .string kb] 53) = w0 at *
  refine (head31 _ T0.out.tabs).mono ?_
  rintro e v1 ⟨rfl, hb⟩
  have T1 := Lib.hid (T0.out.step hb)
  replace HL := Lib.hid (HL.out.step hb)
  replace HK := Lib.hid (HK.out.keep hw0 hb)
  have hw1 : w.heap.size < v1.heap.size := Nat.lt_of_lt_of_le hw0 hb.size
  clear hb T0 hw0
  obtain ⟨k0, k1, k2, k3, k4⟩ := HK.out
  go_wp2_with fail
  have hx := Few_any l ao lb lo c 14 v1 nl HL.out
  rw [f1] at hx
  refine hx.mono ?_
  rintro e wx ⟨rfl, rfl⟩
  clear hx
  go_wp2_with fail
  refine (CL.out _ HL.out T1.out.tabs).mono ?_
  rintro e v2 ⟨rfl, hb⟩
  have T2 := Lib.hid (T1.out.step hb)
  replace HL := Lib.hid (HL.out.step hb)
  replace HK := Lib.hid (HK.out.keep hw1 hb)
  have hw2 : w.heap.size < v2.heap.size := Nat.lt_of_lt_of_le hw1 hb.size
  clear hb T1 hw1 k0 k1 k2 k3 k4
  obtain ⟨k0, k1, k2, k3, k4⟩ := HK.out
  go_wp2_with fail
  refine (RC.out _ HL.out T2.out.tabs).mono ?_
  rintro e v3 ⟨rfl, hb⟩
  have T3 := Lib.hid (T2.out.step hb)
  replace HL := Lib.hid (HL.out.step hb)
  replace HK := Lib.hid (HK.out.keep hw2 hb)
  have hw3 : w.heap.size < v3.heap.size := Nat.lt_of_lt_of_le hw2 hb.size
  clear hb T2 hw2 k0 k1 k2 k3 k4
  obtain ⟨k0, k1, k2, k3, k4⟩ := HK.out
  go_wp2_with fail
  refine (AL.out _ HL.out T3.out.tabs).mono ?_
  rintro e v4 ⟨ao5, c5, lb5, lo5, rfl, hE, hb⟩
  have T4 := Lib.hid (T3.out.step hb)
  have M5 := Lib.hid hE
  replace HL := Lib.hid (HL.out.step hb)
  replace HK := Lib.hid (HK.out.keep hw3 hb)
  have hw4 : w.heap.size < v4.heap.size := Nat.lt_of_lt_of_le hw3 hb.size
  clear hb hE T3 hw3 k0 k1 k2 k3 k4
  obtain ⟨k0, k1, k2, k3, k4⟩ := HK.out
  go_wp2_with fail
  refine (AR.out _ HL.out T4.out.tabs).mono ?_
  rintro e v5 ⟨ao6, c6, lb6, lo6, rfl, hE, hb⟩
  have T5 := Lib.hid (T4.out.step hb)
  have M6 := Lib.hid hE
  replace M5 := Lib.hid (M5.out.step hb)
  replace HL := Lib.hid (HL.out.step hb)
  replace HK := Lib.hid (HK.out.keep hw4 hb)
  have hw5 : w.heap.size < v5.heap.size := Nat.lt_of_lt_of_le hw4 hb.size
  clear hb hE T4 hw4 k0 k1 k2 k3 k4
  obtain ⟨k0, k1, k2, k3, k4⟩ := HK.out
  go_wp2_with fail
  refine (Same_yes mm ao5 ao6 lb5 lo5 c5 lb6 lo6 c6 _ hmm M5.out M6.out).mono ?_
  rintro e v6 ⟨rfl, hb⟩
  have T6 := Lib.hid (T5.out.step hb)
  replace HL := Lib.hid (HL.out.step hb)
  replace HK := Lib.hid (HK.out.keep hw5 hb)
  have hw6 : w.heap.size < v6.heap.size := Nat.lt_of_lt_of_le hw5 hb.size
  clear hb T5 hw5 k0 k1 k2 k3 k4 M5 M6 CL RC AL AR
  go_wp2_with fail
  go_loopg [14] l.length (fun gk i wr => ∃ k, k + gk = l.length ∧ i = .int .i64 (k : Nat) ∧ Trk w wr ∧ Below v6.heap.size v6 wr)
  case atStart => exact ⟨0, by omega, rfl, T6.out, Below.refl _ _⟩
  case round =>
    obtain ⟨k, hk, rfl, tr, br⟩ := hrel
    have T4 := Lib.hid tr
    have L4 := Lib.hid (HL.out.step br)
    have K4 := Lib.hid (HK.out.keep hw6 br)
    have hw4 : w.heap.size < wr.heap.size := Nat.lt_of_lt_of_le hw6 br.size
    have B4 := Lib.hid br
    clear tr br
    by_cases hlt : k < l.length
    · obtain ⟨a, ha⟩ : ∃ a, l[k]? = some a := ⟨_, List.getElem?_eq_getElem (by omega)⟩
      obtain ⟨j, hj⟩ : ∃ j, j = k - 1 := ⟨_, rfl⟩
      obtain ⟨b, hb⟩ : ∃ b, l[j]? = some b := ⟨_, List.getElem?_eq_getElem (by omega)⟩
      obtain ⟨rfl, la⟩ := L4.out.ao (by omega)
      have oa := OL.out a (List.mem_of_getElem? ha)
      have ob := OL.out b (List.mem_of_getElem? hb)
      have FT := Lib.hid (fun w ht => Text_raw a.house a.seq a.day a.prev a.body a.r a.s w oa.house oa.seq oa.day oa.prev oa.body ht)
      have RT := Lib.hid (fun w ht => RText_raw a.house a.seq a.day a.prev a.body a.r a.s w oa.house oa.seq oa.day oa.prev oa.body ht)
      have FF := Lib.hid (fun w ht => Fork_any a b kp w oa ob ht)
      have RF := Lib.hid (fun w ht => RFork_any a b kp w oa ob ht)
      generalize txtE a.house a.seq a.day a.prev a.body = tx at *
      generalize frkE kp a b = fv at *
      have i1 : (0 : Int) ≤ (k : Int) := by omega
      have i2 : (k : Int) < (l.length : Int) := by omega
      have i3 : k < l.length := by omega
      have i4 : (0 : Int) ≤ (j : Int) := by omega
      have i5 : (j : Int) < (l.length : Int) := by omega
      have i6 : max ((k : Int) - 1) 0 = (j : Int) := by omega
      have i7 : j < l.length := by omega
      have i8 : (k : Int) ≤ 14 := by omega
      obtain ⟨b0, b1, b2, b3, b4, b5, b6⟩ := L4.out.at_ j b hb
      have L7 := Lib.hid (L4.out.step (alloc_below wr (.cells #[.int .i64 b.house, .int .i64 b.seq, .int .i64 b.day, .string b.prev, .string b.body, .int .i64 b.r, .int .i64 b.s] 63)))
      have A7 := Lib.hid (L7.out.at_ k a ha)
      have X7 := Lib.hid (new7 wr b.house b.seq b.day b.prev b.body b.r b.s 63)
      have K7 := Lib.hid (K4.out.keep hw4 (alloc_below wr (.cells #[.int .i64 b.house, .int .i64 b.seq, .int .i64 b.day, .string b.prev, .string b.body, .int .i64 b.r, .int .i64 b.s] 63)))
      have T7 := Lib.hid (T4.out.alloc (.cells #[.int .i64 b.house, .int .i64 b.seq, .int .i64 b.day, .string b.prev, .string b.body, .int .i64 b.r, .int .i64 b.s] 63))
      have B7 := Lib.hid (B4.out.trans ((alloc_below wr (.cells #[.int .i64 b.house, .int .i64 b.seq, .int .i64 b.day, .string b.prev, .string b.body, .int .i64 b.r, .int .i64 b.s] 63)).mono B4.out.size))
      have hw7 : w.heap.size < (wr.alloc (.cells #[.int .i64 b.house, .int .i64 b.seq, .int .i64 b.day, .string b.prev, .string b.body, .int .i64 b.r, .int .i64 b.s] 63)).heap.size := by simp; omega
      have hb7 : lb < (wr.alloc (.cells #[.int .i64 b.house, .int .i64 b.seq, .int .i64 b.day, .string b.prev, .string b.body, .int .i64 b.r, .int .i64 b.s] 63)).heap.size := by simp; omega
      have hx7 : wr.heap.size < (wr.alloc (.cells #[.int .i64 b.house, .int .i64 b.seq, .int .i64 b.day, .string b.prev, .string b.body, .int .i64 b.r, .int .i64 b.s] 63)).heap.size := by simp
      clear ha hb oa ob hj
      go_wp2_with fail
      clear b0 b1 b2 b3 b4 b5 b6 L4 K4 L7 T4 B4 OL HL HK la hw4
      generalize wr.alloc (.cells #[.int .i64 b.house, .int .i64 b.seq, .int .i64 b.day, .string b.prev, .string b.body, .int .i64 b.r, .int .i64 b.s] 63) = w7 at *
      generalize wr.heap.size = nx at *
      obtain ⟨a0, a1, a2, a3, a4, a5, a6⟩ := A7.out
      obtain ⟨x0, x1, x2, x3, x4, x5, x6⟩ := X7.out
      obtain ⟨_, _, k2, _, _⟩ := K7.out
      have HINI := Lib.hid (ini_mr a0 a1 a2 a3 a4 a5 a6 x0 x1 x2 x3 x4 x5 x6 k2 (Trk.start T7.out.tabs))
      clear a0 a1 a2 a3 a4 a5 a6 x0 x1 x2 x3 x4 x5 x6 k2 A7 X7 K7
      cases fv
      all_goals
        go_region_held_law (fun w' => w'.cell? ⟨lb, lo + k * 7, none⟩ = some (.int .i64 a.house) ∧ w'.cell? ⟨lb, lo + k * 7 + 1, none⟩ = some (.int .i64 a.seq) ∧ w'.cell? ⟨lb, lo + k * 7 + 2, none⟩ = some (.int .i64 a.day) ∧ w'.cell? ⟨lb, lo + k * 7 + 3, none⟩ = some (.string a.prev) ∧ w'.cell? ⟨lb, lo + k * 7 + 4, none⟩ = some (.string a.body) ∧ w'.cell? ⟨lb, lo + k * 7 + 5, none⟩ = some (.int .i64 a.r) ∧ w'.cell? ⟨lb, lo + k * 7 + 6, none⟩ = some (.int .i64 a.s) ∧ w'.cell? ⟨nx, 0, none⟩ = some (.int .i64 b.house) ∧ w'.cell? ⟨nx, 1, none⟩ = some (.int .i64 b.seq) ∧ w'.cell? ⟨nx, 2, none⟩ = some (.int .i64 b.day) ∧ w'.cell? ⟨nx, 3, none⟩ = some (.string b.prev) ∧ w'.cell? ⟨nx, 4, none⟩ = some (.string b.body) ∧ w'.cell? ⟨nx, 5, none⟩ = some (.int .i64 b.r) ∧ w'.cell? ⟨nx, 6, none⟩ = some (.int .i64 b.s) ∧ w'.cell? ⟨w.heap.size, 2, none⟩ = some (.int .i64 kp) ∧ Trk w7 w') (first | (with_reducible assumption) | (with_reducible exact HINI.out) | (with_reducible refine keep_mr hb7 hx7 hw7 hba ?_; with_reducible assumption) | (with_reducible refine keep_mr hb7 hx7 hw7 hbb ?_; with_reducible assumption) | (with_reducible refine keep_mr hb7 hx7 hw7 hbc ?_; with_reducible assumption) | (with_reducible refine keep_mr hb7 hx7 hw7 hbd ?_; with_reducible assumption) | (refine keep_mr hb7 hx7 hw7 (drewN_below _ 1) ?_; first | (with_reducible assumption) | (with_reducible exact HINI.out))) (first | (go_at_call 43; with_reducible refine (FT.out _ ?TT).mono ?_; (case TT => exact (by first | exact (held_mr (by assumption)).tabs | exact T7.out.tabs | exact T7.out.tabs.drew)); rintro e wa ⟨rfl, hba⟩) | (go_at_call 44; with_reducible refine (RT.out _ ?TT).mono ?_; (case TT => exact (by first | exact (held_mr (by assumption)).tabs | exact T7.out.tabs | exact T7.out.tabs.drew)); rintro e wa ⟨rfl, hbb⟩) | (go_at_call 45; with_reducible refine (FF.out _ ?TT).mono ?_; (case TT => exact (by first | exact (held_mr (by assumption)).tabs | exact T7.out.tabs | exact T7.out.tabs.drew)); rintro e wa ⟨rfl, hbc⟩) | (go_at_call 46; with_reducible refine (RF.out _ ?TT).mono ?_; (case TT => exact (by first | exact (held_mr (by assumption)).tabs | exact T7.out.tabs | exact T7.out.tabs.drew)); rintro e wa ⟨rfl, hbd⟩))
        all_goals
          have HFF := Lib.hid (held_mr (n0 := lb) (n1 := nx) (n2 := w.heap.size) (o0 := lo + k * 7) (a := a) (b := b) (kp := kp) (w0 := w7) (by assumption))
          go_wp2_with fail
          go_roundg (gk - 1)
          case measure => omega
          case rel => exact ⟨k + 1, by omega, by go_num, ⟨HFF.out.tabs, T7.out.bel.trans (HFF.out.bel.mono T7.out.bel.size)⟩, B7.out.trans (HFF.out.bel.mono B7.out.size)⟩
    · obtain rfl : k = l.length := by omega
      have i2 : ¬ (l.length : Int) < (l.length : Int) := by omega
      go_wp2_with fail
      go_ret
      exact ⟨rfl, T4.out.bel⟩
theorem law_ChainMatchesReference (l : List Ent) (ao : Option Addr) (lb lo c : Nat) (kh ks kp kd : Int) (kb : ByteArray) (w : World) (hl : EntsAt w ao lb lo l) (il : ∀ e ∈ l, e.I) (nl : l.length ≤ 9223372036854775807) (ik : I64 kh ∧ I64 ks ∧ I64 kp ∧ I64 kd) (ht : Tabs w) :
    Calls Tryd.prog 10 #[.slice ao l.length c, .agg #[.int .i64 kh, .int .i64 ks, .int .i64 kp, .int .i64 kd, .string kb]] w fun e w' => e = .returned (.bool true) ∧ Below w.heap.size w w' := by
  rcases f1 : fewE l 14 with _ | _
  · exact match_few l ao lb lo c kh ks kp kd kb w hl ht nl f1
  by_cases e1 : kb.size ≤ 2100
  rotate_left
  · exact match_big l ao lb lo c kh ks kp kd kb w hl ht nl f1 (by omega)
  have l1 := few_len f1
  have ol := few_ok f1 il
  refine match_main l ao lb lo c kh ks kp kd kb w hl ht nl f1 e1 (by omega) (chkE kh kp l).1 (chkE kh kp l).2 (appC kh ks kd kb l) (appM (appC kh ks kd kb l) (l ++ [newEnt kh ks.toNat kd kb l.length (lastDig l)])) ?_
    (fun w h ht => Check_any kh kp l ao lb lo c w (by omega) ol h ht) (fun w h ht => RCheck_any kh kp l ao lb lo c w (by omega) ol h ht)
    (fun w h ht => (Append_any l ao lb lo c kh ks kd kb w (by omega) ol h ht (by omega) ik.2.1).mono fun e w' h => h.any)
    (fun w h ht => (RAppend_any l ao lb lo c kh ks kd kb w (by omega) ol h ht (by omega) ik.2.1 ik.2.2.2).mono fun e w' h => h.any) ol
  unfold appM
  split
  · simp; omega
  · simp
end Go.Proofs.YtpdbcahiipbhnaaDoor
