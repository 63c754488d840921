/- Layer 31: the reference's Few and Same, Fork. -/
import Derived.Test.YtpdbcahiipbhnaaDoorM6
import Derived.BigQuiet
namespace Go.Proofs.YtpdbcahiipbhnaaDoor
open Go.RowKit

theorem ent_ext {a b : Ent} : a = b ↔ a.house = b.house ∧ a.seq = b.seq ∧ a.day = b.day ∧ a.prev = b.prev ∧ a.body = b.body ∧ a.r = b.r ∧ a.s = b.s := by
  constructor
  · rintro rfl; exact ⟨rfl, rfl, rfl, rfl, rfl, rfl, rfl⟩
  · cases a; cases b; rintro ⟨rfl, rfl, rfl, rfl, rfl, rfl, rfl⟩; rfl
instance : DecidableEq Ent := fun _ _ => decidable_of_iff _ ent_ext.symm
/-- Whether two entries are the same. -/
@[irreducible] def eqE (a b : Ent) : Bool := decide (a = b)
theorem eqE_iff {a b : Ent} : eqE a b = true ↔ a = b := by unfold eqE; simp
theorem eqE_self (a : Ent) : eqE a a = true := eqE_iff.2 rfl
theorem eqE_no {a b : Ent} (h : a ≠ b) : eqE a b = false := by rw [← Bool.not_eq_true]; exact fun x => h (eqE_iff.1 x)
theorem str_ne {a b : ByteArray} (h : a ≠ b) : (a.toList == b.toList) = false := by
  rw [beq_eq_false_iff_ne]
  intro h2
  apply h
  rw [Lib.toList_data, Lib.toList_data] at h2
  exact ByteArray.ext (Array.toList_inj.1 h2)
set_option maxHeartbeats 1000000 in
theorem run_eql_ent (a b : Ent) (w : World) : (binOp .eql 63 (.agg #[.int .i64 a.house, .int .i64 a.seq, .int .i64 a.day, .string a.prev, .string a.body, .int .i64 a.r, .int .i64 a.s]) (.agg #[.int .i64 b.house, .int .i64 b.seq, .int .i64 b.day, .string b.prev, .string b.body, .int .i64 b.r, .int .i64 b.s])).run Tryd.prog w = .ok (.bool (eqE a b)) w := by
  by_cases h0 : a.house = b.house
  · by_cases h1 : a.seq = b.seq
    · by_cases h2 : a.day = b.day
      · by_cases h3 : a.prev = b.prev
        · by_cases h4 : a.body = b.body
          · by_cases h5 : a.r = b.r
            · by_cases h6 : a.s = b.s
              · obtain rfl : a = b := ent_ext.2 ⟨h0, h1, h2, h3, h4, h5, h6⟩
                rw [eqE_self]
                go_simp
              · rw [eqE_no (fun e => h6 (by rw [e]))]
                go_simp
            · rw [eqE_no (fun e => h5 (by rw [e]))]
              go_simp
          · rw [eqE_no (fun e => h4 (by rw [e]))]
            have k := str_ne h4
            go_simp
        · rw [eqE_no (fun e => h3 (by rw [e]))]
          have k := str_ne h3
          go_simp
      · rw [eqE_no (fun e => h2 (by rw [e]))]
        go_simp
    · rw [eqE_no (fun e => h1 (by rw [e]))]
      go_simp
  · rw [eqE_no (fun e => h0 (by rw [e]))]
    go_simp
set_option maxHeartbeats 1000000 in
theorem run_neq_ent (a b : Ent) (w : World) : (binOp .neq 63 (.agg #[.int .i64 a.house, .int .i64 a.seq, .int .i64 a.day, .string a.prev, .string a.body, .int .i64 a.r, .int .i64 a.s]) (.agg #[.int .i64 b.house, .int .i64 b.seq, .int .i64 b.day, .string b.prev, .string b.body, .int .i64 b.r, .int .i64 b.s])).run Tryd.prog w = .ok (.bool (!eqE a b)) w := by
  by_cases h0 : a.house = b.house
  · by_cases h1 : a.seq = b.seq
    · by_cases h2 : a.day = b.day
      · by_cases h3 : a.prev = b.prev
        · by_cases h4 : a.body = b.body
          · by_cases h5 : a.r = b.r
            · by_cases h6 : a.s = b.s
              · obtain rfl : a = b := ent_ext.2 ⟨h0, h1, h2, h3, h4, h5, h6⟩
                rw [eqE_self]
                go_simp
              · rw [eqE_no (fun e => h6 (by rw [e]))]
                go_simp
            · rw [eqE_no (fun e => h5 (by rw [e]))]
              go_simp
          · rw [eqE_no (fun e => h4 (by rw [e]))]
            have k := str_ne h4
            go_simp
        · rw [eqE_no (fun e => h3 (by rw [e]))]
          have k := str_ne h3
          go_simp
      · rw [eqE_no (fun e => h2 (by rw [e]))]
        go_simp
    · rw [eqE_no (fun e => h1 (by rw [e]))]
      go_simp
  · rw [eqE_no (fun e => h0 (by rw [e]))]
    go_simp
/-- Whether a list is small enough for a statement. -/
@[irreducible] def fewE (l : List Ent) (n : Int) : Bool := decide ((l.length : Int) ≤ n ∧ ∀ e ∈ l, e.prev.size ≤ 100 ∧ e.body.size ≤ 2100)
theorem fewE_iff {l : List Ent} {n : Int} : fewE l n = true ↔ (l.length : Int) ≤ n ∧ ∀ e ∈ l, e.prev.size ≤ 100 ∧ e.body.size ≤ 2100 := by unfold fewE; simp
theorem fewE_no {l : List Ent} {n : Int} (h : ¬ ((l.length : Int) ≤ n ∧ ∀ e ∈ l, e.prev.size ≤ 100 ∧ e.body.size ≤ 2100)) : fewE l n = false := by rw [← Bool.not_eq_true]; exact fun x => h (fewE_iff.1 x)
set_option maxHeartbeats 1000000 in
theorem Few_any (l : List Ent) (ao : Option Addr) (lb lo c : Nat) (n : Int) (w : World) (hl : l.length ≤ 9223372036854775807) (hat : EntsAt w ao lb lo l) :
    Calls Tryd.prog 37 #[.slice ao l.length c, .int .i64 n] w fun e w' => e = .returned (.bool (fewE l n)) ∧ w = w' := by
  have HAT := Lib.hid hat
  clear hat
  by_cases h0 : n < (l.length : Int)
  · rw [fewE_no (fun h => by have := h.1; omega)]
    go_enter Tryd.func37, Tryd.ntmps37
    go_wp2_with fail
    go_ret
    exact ⟨rfl, rfl⟩
  · have h0' : (l.length : Int) ≤ n := by omega
    go_enter Tryd.func37, Tryd.ntmps37
    go_wp2_with fail
    go_loopg [5] l.length (fun gk i wr => ∃ k, k + gk = l.length ∧ i = .int .i64 (k : Nat) ∧ (∀ j e, j < k → l[j]? = some e → e.prev.size ≤ 100 ∧ e.body.size ≤ 2100) ∧ w = wr)
    case atStart => exact ⟨0, by omega, rfl, fun j e hj _ => by omega, rfl⟩
    case round =>
      obtain ⟨k, hk, rfl, hall, rfl⟩ := hrel
      have HALL := Lib.hid hall
      clear hall
      by_cases hlt : k < l.length
      · obtain ⟨e, he⟩ : ∃ e, l[k]? = some e := ⟨_, List.getElem?_eq_getElem hlt⟩
        have ha := (HAT.out.ao (by omega)).1
        subst ha
        obtain ⟨c0, c1, c2, c3, c4, c5, c6⟩ := HAT.out.at_ k e he
        have HE := Lib.hid he
        clear he c0 c1 c2 c5 c6
        by_cases q1 : e.prev.size ≤ 100
        · have q1' : ¬ (100 : Int) < (e.prev.size : Int) := by omega
          have q1'' : ¬ 100 < e.prev.size := by omega
          by_cases q2 : e.body.size ≤ 2100
          · have q2' : ¬ (2100 : Int) < (e.body.size : Int) := by omega
            have q2'' : ¬ 2100 < e.body.size := by omega
            have HQ := Lib.hid (And.intro q1 q2)
            clear q1 q2
            go_wp2_with fail
            go_roundg (gk - 1)
            case measure => omega
            case rel => exact ⟨k + 1, by omega, by go_num, fun j x hj hx => by
              by_cases hjk : j = k
              · subst hjk; rw [HE.out] at hx; cases hx; exact HQ.out
              · exact HALL.out j x (by omega) hx, rfl⟩
          · have q2' : (2100 : Int) < (e.body.size : Int) := by omega
            have q2'' : 2100 < e.body.size := by omega
            have HN := Lib.hid (fewE_no (l := l) (n := n) (fun h => q2 (h.2 e (List.mem_of_getElem? HE.out)).2))
            clear q1 q2
            go_wp2_with fail
            go_ret
            exact ⟨by rw [HN.out]; rfl, rfl⟩
        · have q1' : (100 : Int) < (e.prev.size : Int) := by omega
          have q1'' : 100 < e.prev.size := by omega
          have HN := Lib.hid (fewE_no (l := l) (n := n) (fun h => q1 (h.2 e (List.mem_of_getElem? HE.out)).1))
          clear q1
          go_wp2_with fail
          go_ret
          exact ⟨by rw [HN.out]; rfl, rfl⟩
      · have HN := Lib.hid (fewE_iff (l := l) (n := n).2 ⟨h0', fun e he => by
          obtain ⟨j, hj⟩ := List.getElem?_of_mem he
          exact HALL.out j e (by have := (List.getElem?_eq_some_iff.1 hj).1; omega) hj⟩)
        go_wp2_with fail
        go_ret
        exact ⟨by rw [HN.out]; rfl, rfl⟩
/-- Whether two entries are a fork. -/
@[irreducible] def frkE (y : Int) (a b : Ent) : Bool := !eqE a b && decide (a.house = b.house) && decide (a.seq = b.seq) && a.sgd y && b.sgd y
theorem frkE_eq (y : Int) (a b : Ent) : frkE y a b = (!eqE a b && decide (a.house = b.house) && decide (a.seq = b.seq) && a.sgd y && b.sgd y) := by unfold frkE; rfl
theorem signed_ent (y : Int) (e : Ent) (w : World) (he : e.Ok) (ht : Tabs w) : Calls Tryd.prog 72 #[.agg #[.int .i64 e.house, .int .i64 e.seq, .int .i64 e.day, .string e.prev, .string e.body, .int .i64 e.r, .int .i64 e.s], .int .i64 y] w fun x w' => x = .returned (.bool (e.sgd y)) ∧ Below w.heap.size w w' :=
  signed_raw y e.house e.seq e.day e.prev e.body e.r e.s w he.house he.seq he.day he.prev he.body ht
theorem two_boxes (w : World) (a b : Ent) (ht : Tabs w) : At7 ((w.alloc (.cells #[.int .i64 a.house, .int .i64 a.seq, .int .i64 a.day, .string a.prev, .string a.body, .int .i64 a.r, .int .i64 a.s] 63)).alloc (.cells #[.int .i64 b.house, .int .i64 b.seq, .int .i64 b.day, .string b.prev, .string b.body, .int .i64 b.r, .int .i64 b.s] 63)) w.heap.size a.house a.seq a.day a.prev a.body a.r a.s ∧ At7 ((w.alloc (.cells #[.int .i64 a.house, .int .i64 a.seq, .int .i64 a.day, .string a.prev, .string a.body, .int .i64 a.r, .int .i64 a.s] 63)).alloc (.cells #[.int .i64 b.house, .int .i64 b.seq, .int .i64 b.day, .string b.prev, .string b.body, .int .i64 b.r, .int .i64 b.s] 63)) (w.heap.size + 1) b.house b.seq b.day b.prev b.body b.r b.s ∧ Trk w ((w.alloc (.cells #[.int .i64 a.house, .int .i64 a.seq, .int .i64 a.day, .string a.prev, .string a.body, .int .i64 a.r, .int .i64 a.s] 63)).alloc (.cells #[.int .i64 b.house, .int .i64 b.seq, .int .i64 b.day, .string b.prev, .string b.body, .int .i64 b.r, .int .i64 b.s] 63)) ∧ ((w.alloc (.cells #[.int .i64 a.house, .int .i64 a.seq, .int .i64 a.day, .string a.prev, .string a.body, .int .i64 a.r, .int .i64 a.s] 63)).alloc (.cells #[.int .i64 b.house, .int .i64 b.seq, .int .i64 b.day, .string b.prev, .string b.body, .int .i64 b.r, .int .i64 b.s] 63)).heap.size = w.heap.size + 2 := by
  have n1 := new7 w a.house a.seq a.day a.prev a.body a.r a.s 63
  have T1 := (Trk.start ht).alloc (.cells #[.int .i64 a.house, .int .i64 a.seq, .int .i64 a.day, .string a.prev, .string a.body, .int .i64 a.r, .int .i64 a.s] 63)
  have z1 : (w.alloc (.cells #[.int .i64 a.house, .int .i64 a.seq, .int .i64 a.day, .string a.prev, .string a.body, .int .i64 a.r, .int .i64 a.s] 63)).heap.size = w.heap.size + 1 := by simp
  generalize w.alloc (.cells #[.int .i64 a.house, .int .i64 a.seq, .int .i64 a.day, .string a.prev, .string a.body, .int .i64 a.r, .int .i64 a.s] 63) = w1 at *
  have n2 := new7 w1 b.house b.seq b.day b.prev b.body b.r b.s 63
  rw [z1] at n2
  exact ⟨keep7 (by omega) (alloc_below w1 _) n1, n2, T1.alloc _, by simp; omega⟩
set_option maxHeartbeats 4000000 in
theorem Fork_any (a b : Ent) (y : Int) (w : World) (ha : a.Ok) (hb : b.Ok) (ht : Tabs w) :
    Calls Tryd.prog 45 #[.agg #[.int .i64 a.house, .int .i64 a.seq, .int .i64 a.day, .string a.prev, .string a.body, .int .i64 a.r, .int .i64 a.s], .agg #[.int .i64 b.house, .int .i64 b.seq, .int .i64 b.day, .string b.prev, .string b.body, .int .i64 b.r, .int .i64 b.s], .int .i64 y] w
      fun e w' => e = .returned (.bool (frkE y a b)) ∧ Below w.heap.size w w' := by
  have HE := Lib.hid (frkE_eq y a b)
  have hq := run_eql_ent a b
  have SA := Lib.hid (fun w ht => signed_ent y a w ha ht)
  have SB := Lib.hid (fun w ht => signed_ent y b w hb ht)
  obtain ⟨hm1, hm2, hT, hZ⟩ := two_boxes w a b ht
  have HM1 := Lib.hid hm1
  have HM2 := Lib.hid hm2
  have HT := Lib.hid hT
  have HZ := Lib.hid hZ
  clear hm1 hm2 hT hZ ht ha hb
  obtain ⟨a0, a1, a2, a3, a4, a5, a6⟩ := HM1.out
  obtain ⟨b0, b1, b2, b3, b4, b5, b6⟩ := HM2.out
  by_cases h1 : eqE a b = true
  · go_enter Tryd.func45, Tryd.ntmps45
    go_wp2_with fail
    go_ret
    exact ⟨by rw [HE.out, h1]; rfl, HT.out.bel⟩
  replace h1 : eqE a b = false := by simpa using h1
  by_cases h2 : a.house = b.house
  · have e2 : (a.house == b.house) = true := by simpa using h2
    have e2' : (a.house != b.house) = false := by simpa using h2
    have H2 := Lib.hid h2
    clear h2
    by_cases h3 : a.seq = b.seq
    · have e3 : (a.seq == b.seq) = true := by simpa using h3
      have e3' : (a.seq != b.seq) = false := by simpa using h3
      have H3 := Lib.hid h3
      clear h3
      rcases hs : a.sgd y with _ | _
      · rw [hs] at SA
        have HH := Lib.hid hs
        clear hs
        go_enter Tryd.func45, Tryd.ntmps45
        go_wp2_with fail
        refine (SA.out _ HT.out.tabs).mono ?_
        rintro e w1 ⟨rfl, hb⟩
        have HB := Lib.hid (HT.out.step hb)
        clear hb
        go_wp2_with fail
        go_ret
        exact ⟨by rw [HE.out, HH.out]; simp, HB.out.bel⟩
      · rw [hs] at SA
        have HH := Lib.hid hs
        clear hs
        go_enter Tryd.func45, Tryd.ntmps45
        go_wp2_with fail
        refine (SA.out _ HT.out.tabs).mono ?_
        rintro e w1 ⟨rfl, hb⟩
        have HB := Lib.hid (HT.out.step hb)
        have HM3 := Lib.hid (keep7 (by rw [HZ.out]; omega) hb HM2.out)
        clear hb a0 a1 a2 a3 a4 a5 a6 b0 b1 b2 b3 b4 b5 b6
        obtain ⟨b0, b1, b2, b3, b4, b5, b6⟩ := HM3.out
        go_wp2_with fail
        refine (SB.out _ HB.out.tabs).mono ?_
        rintro e w2 ⟨rfl, hb⟩
        have HB2 := Lib.hid (HB.out.step hb)
        clear hb
        go_wp2_with fail
        go_ret
        exact ⟨by rw [HE.out, HH.out, h1, decide_eq_true H2.out, decide_eq_true H3.out]; rfl, HB2.out.bel⟩
    · have HH := Lib.hid h3
      have e3 : (a.seq == b.seq) = false := by simpa using h3
      have e3' : (a.seq != b.seq) = true := by simpa using h3
      clear h3
      go_enter Tryd.func45, Tryd.ntmps45
      go_wp2_with fail
      go_ret
      exact ⟨by rw [HE.out, decide_eq_false HH.out]; simp, HT.out.bel⟩
  · have HH := Lib.hid h2
    have e2 : (a.house == b.house) = false := by simpa using h2
    have e2' : (a.house != b.house) = true := by simpa using h2
    clear h2
    go_enter Tryd.func45, Tryd.ntmps45
    go_wp2_with fail
    go_ret
    exact ⟨by rw [HE.out, decide_eq_false HH.out]; simp, HT.out.bel⟩
end Go.Proofs.YtpdbcahiipbhnaaDoor
