/- Layer 34: disclose.Check; Prove out of range. -/
import Derived.Test.YtpdbcahiipbhnaaDoorN5
namespace Go.Proofs.YtpdbcahiipbhnaaDoor
open Go.RowKit

set_option maxHeartbeats 1000000 in
set_option maxRecDepth 100000 in
theorem Prove_low (ao : Option Addr) (n c : Nat) (i : Int) (w : World) (hi : i < 0) :
    Calls Tryd.prog 20 #[.slice ao n c, .int .i64 i] w fun e W' => e = .returned (.tuple #[.slice none 0 0, .int .i64 1]) ∧ Below w.heap.size w W' := by
  have hb := Lib.hid (alloc_below w (.cells #[.slice ao n c] 22))
  go_enter Tryd.func20, Tryd.ntmps20
  go_wp2_with fail
  go_ret2
  exact ⟨rfl, hb.out⟩
set_option maxHeartbeats 1000000 in
set_option maxRecDepth 100000 in
theorem Prove_high (ao : Option Addr) (n c : Nat) (i : Int) (w : World) (hi : 0 ≤ i) (h : (n : Int) ≤ i) :
    Calls Tryd.prog 20 #[.slice ao n c, .int .i64 i] w fun e W' => e = .returned (.tuple #[.slice none 0 0, .int .i64 1]) ∧ Below w.heap.size w W' := by
  have hb := Lib.hid (alloc_below w (.cells #[.slice ao n c] 22))
  have h1 : ¬ i < 0 := by omega
  go_enter Tryd.func20, Tryd.ntmps20
  go_wp2_with fail
  go_ret2
  exact ⟨rfl, hb.out⟩
theorem str_ne' {a b : ByteArray} (h : a ≠ b) : (a.toList == b.toList) = false := by
  rw [beq_eq_false_iff_ne]
  intro e
  apply h
  rw [Lib.toList_data, Lib.toList_data] at e
  exact ByteArray.ext (Array.toList_inj.1 e)
/-- The sides of the levels of a path, in memory. -/
structure FstAt (W : World) (ao : Option Addr) (g o : Nat) (ls : List Lev) : Prop where
  ao : 0 < ls.length → ao = some ⟨g, o, none⟩ ∧ g < W.heap.size
  at_ : ∀ j x, ls[j]? = some x → W.cell? ⟨g, o + j * 4 + 3, none⟩ = some (.bool x.first)
theorem FstAt.step {w w' : World} {ao : Option Addr} {g o : Nat} {ls : List Lev} (h : FstAt w ao g o ls) (hb : Below w.heap.size w w') : FstAt w' ao g o ls :=
  ⟨fun hl => ⟨(h.ao hl).1, Nat.lt_of_lt_of_le (h.ao hl).2 hb.size⟩, fun j x hx => (hb.cell (p := ⟨g, o + j * 4 + 3, none⟩) (h.ao (by have := (List.getElem?_eq_some_iff.1 hx).1; omega)).2).trans (h.at_ j x hx)⟩
theorem cellsV_at (l : List Lev) : ∀ (i : Nat) (x : Lev), l[i]? = some x → (cellsV l)[i * 4 + 3]? = some (.bool x.first) := by
  induction l with
  | nil => intro i x h; simp at h
  | cons e l ih =>
    intro i x h
    simp only [cellsV, List.flatMap_cons] at ih ⊢
    rcases i with _ | i
    · simp at h; subst h; rfl
    · rw [List.getElem?_append_right (by show 4 ≤ _; omega), show (i + 1) * 4 + 3 - e.cells.length = i * 4 + 3 by show _ - 4 = _; omega]
      exact ih i x (by simpa using h)
theorem Own.fst {w : World} {B : Nat} {v : Value} {ls : List Lev} (h : Own w B 4 v ls.length (cellsV ls)) : ∃ ao cap g o, v = .slice ao ls.length cap ∧ FstAt w ao g o ls := by
  rcases h.2 with ⟨rfl, h0⟩ | ⟨g, o, cap, rfl, _, hgs, _, _, hr, _⟩
  · have hl : ls = [] := List.eq_nil_of_length_eq_zero h0
    subst hl
    exact ⟨none, 0, 0, 0, rfl, ⟨fun h => by simp at h, fun i e he => by simp at he⟩⟩
  · exact ⟨some ⟨g, o, none⟩, cap, g, o, rfl, ⟨fun _ => ⟨rfl, hgs⟩, fun j x hx => by rw [Nat.add_assoc]; exact hr _ _ (cellsV_at ls j x hx)⟩⟩
theorem leadL_size (x0 : ByteArray) (h0 : x0.size ≤ 100000) : ∀ (xs : List Lev) (os : List ByteArray), (leadL nodB x0 xs os).size ≤ 100000 := by
  intro xs
  induction xs generalizing x0 with
  | nil => intro os; cases os <;> exact h0
  | cons x xs ih =>
    intro os
    rcases os with _ | ⟨o, os⟩
    · exact h0
    · refine ih _ ?_ os
      unfold upL
      split <;> (rw [nodB, tagB_size]; decide)
theorem lead_take (x0 : ByteArray) (xs : List Lev) (os : List ByteArray) (hl : xs.length = os.length) {k : Nat} {x : Lev} {o : ByteArray} (hx : xs[k]? = some x) (ho : os[k]? = some o) :
    leadL nodB x0 (xs.take (k + 1)) (os.take (k + 1)) = upL nodB (leadL nodB x0 (xs.take k) (os.take k)) x o := by
  rw [List.take_add_one, List.take_add_one, hx, ho]
  exact leadL_snoc nodB x o _ _ _ (by rw [List.length_take, List.length_take, hl])
/-- Whether a proof is accepted. -/
@[irreducible] def checkB (root : ByteArray) (n i : Int) (leaf : ByteArray) (proof : List ByteArray) : Bool :=
  decide (¬ (n < 1 ∨ 4000 < n ∨ i < 0 ∨ n ≤ i) ∧ (lvls i.toNat 0 n.toNat).length = proof.length ∧ leadL nodB leaf (lvls i.toNat 0 n.toNat).reverse proof = root)
theorem checkB_iff {root : ByteArray} {n i : Int} {leaf : ByteArray} {proof : List ByteArray} : checkB root n i leaf proof = true ↔ ¬ (n < 1 ∨ 4000 < n ∨ i < 0 ∨ n ≤ i) ∧ (lvls i.toNat 0 n.toNat).length = proof.length ∧ leadL nodB leaf (lvls i.toNat 0 n.toNat).reverse proof = root := by
  unfold checkB; rw [decide_eq_true_eq]
theorem checkB_no {root : ByteArray} {n i : Int} {leaf : ByteArray} {proof : List ByteArray} (h : ¬ (¬ (n < 1 ∨ 4000 < n ∨ i < 0 ∨ n ≤ i) ∧ (lvls i.toNat 0 n.toNat).length = proof.length ∧ leadL nodB leaf (lvls i.toNat 0 n.toNat).reverse proof = root)) : checkB root n i leaf proof = false := by
  rw [← Bool.not_eq_true]; exact fun x => h (checkB_iff.1 x)
set_option maxHeartbeats 1000000 in
set_option maxRecDepth 100000 in
theorem Check34_arg (vr vs vp : Value) (n i : Int) (x : Fct) (w : World) (b1 b2 b3 b4 : Bool) (h1 : decide (n < 1) = b1) (h2 : decide (4000 < n) = b2) (h3 : decide (i < 0) = b3) (h4 : decide (n ≤ i) = b4) (hb : (b1 || b2 || b3 || b4) = true) :
    Calls Tryd.prog 27 #[vr, .int .i64 n, .int .i64 i, .agg x.vals, vs, vp] w fun e w' => e = .returned (.bool false) ∧ Below w.heap.size w w' := by
  obtain ⟨a, b, c, d, e, s⟩ := x
  have HB := Lib.hid (alloc_below w (.cells #[.int .i64 a, .int .i64 b, .int .i64 c, .int .i64 d, .int .i64 e, .bool s] 24))
  cases b1 <;> cases b2 <;> cases b3 <;> cases b4
  all_goals first
    | (exfalso; revert hb; decide)
    | (clear hb
       go_enter Tryd.func27, Tryd.ntmps27
       go_wp2_with fail
       go_ret
       exact ⟨rfl, HB.out⟩)
set_option maxHeartbeats 4000000 in
set_option maxRecDepth 100000 in
theorem Check34_in (root salt : ByteArray) (n i : Nat) (x : Fct) (l : List ByteArray) (ao : Option Addr) (lb lo c0 : Nat) (w : World) (h1 : 1 ≤ n) (h2 : n ≤ 4000) (h3 : i < n) (hx : x.I) (hs : salt.size ≤ 100000) (hl : l.length ≤ 100000) (hls : ∀ s ∈ l, s.size ≤ 100000) (hat : StrsAt w ao lb lo l) (ht : Tabs w) :
    Calls Tryd.prog 27 #[.string root, .int .i64 n, .int .i64 i, .agg x.vals, .string salt, .slice ao l.length c0] w fun e w' => e = .returned (.bool (decide ((lvls i 0 n).length = l.length ∧ leadL nodB (leafB x salt) (lvls i 0 n).reverse l = root))) ∧ Below w.heap.size w w' := by
  have FL := Lib.hid (fun w ht => Leaf_any x salt w hx hs ht)
  have hlf : (leafB x salt).size ≤ 100000 := by rw [tagB_size]; decide
  have g1 : ¬ (n : Int) < 1 := by omega
  have g2 : ¬ (4000 : Int) < (n : Int) := by omega
  have g3 : ¬ (i : Int) < 0 := by omega
  have g4 : ¬ (n : Int) ≤ (i : Int) := by omega
  have hll := lvls_len i n 0
  have HC := Lib.hid (fun Bn Bi w h1 h2 h3 h4 => Collect_any Bn Bi i n w (by omega) h1 h2 h3 h4)
  have HV := Lib.hid (levels_any i n)
  generalize leafB x salt = lf at *
  generalize lvls i 0 n = ls at *
  obtain ⟨a, b, c, d, e, s⟩ := x
  have T0 := Lib.hid ((Trk.start ht).alloc (.cells #[.int .i64 a, .int .i64 b, .int .i64 c, .int .i64 d, .int .i64 e, .bool s] 24))
  have L0 := Lib.hid (hat.step (alloc_below w (.cells #[.int .i64 a, .int .i64 b, .int .i64 c, .int .i64 d, .int .i64 e, .bool s] 24)))
  have hc0 := Lib.hid (fun j v (hj : (#[.int .i64 a, .int .i64 b, .int .i64 c, .int .i64 d, .int .i64 e, .bool s] : Array Value)[j]? = some v) => new0 (w := w) (c := #[.int .i64 a, .int .i64 b, .int .i64 c, .int .i64 d, .int .i64 e, .bool s]) (t := 24) (n := w.heap.size) (i := j) (v := v) rfl hj)
  have hl0 : w.heap.size < (w.alloc (.cells #[.int .i64 a, .int .i64 b, .int .i64 c, .int .i64 d, .int .i64 e, .bool s] 24)).heap.size := by simp
  clear ht hat hx hs
  go_enter Tryd.func27, Tryd.ntmps27
  go_wp2_with fail
  generalize w.alloc (.cells #[.int .i64 a, .int .i64 b, .int .i64 c, .int .i64 d, .int .i64 e, .bool s] 24) = w0 at *
  refine (HV.out _).mono ?_
  rintro e1 w1 ⟨rfl, rfl⟩
  have B1 : Below w0.heap.size w0 ((w0.alloc (.cells #[.int .i64 i] 3)).alloc (.cells #[.int .i64 n] 3)) := ((Below.refl _ _).alloc (Nat.le_refl _) _).alloc (by simp) _
  have T1 := Lib.hid (T0.out.step B1)
  have L1 := Lib.hid (L0.out.step B1)
  have z0 : (w0.alloc (.cells #[.int .i64 i] 3)).heap.size = w0.heap.size + 1 := by simp
  have n3 : ((w0.alloc (.cells #[.int .i64 i] 3)).alloc (.cells #[.int .i64 n] 3)).cell? ⟨w0.heap.size, 0, none⟩ = some (.int .i64 i) := ((alloc_below _ _).cell (p := ⟨w0.heap.size, 0, none⟩) (by show w0.heap.size < _; omega)).trans (new0 rfl rfl)
  have n4 : ((w0.alloc (.cells #[.int .i64 i] 3)).alloc (.cells #[.int .i64 n] 3)).cell? ⟨w0.heap.size + 1, 0, none⟩ = some (.int .i64 n) := new0 z0.symm rfl
  have z1 : ((w0.alloc (.cells #[.int .i64 i] 3)).alloc (.cells #[.int .i64 n] 3)).heap.size = w0.heap.size + 2 := by simp
  have HCC := Lib.hid (HC.out (w0.heap.size + 1) w0.heap.size _ n4 n3 (by omega) (by omega))
  clear n3 n4 HC HV z0
  go_wp2_with fail
  generalize (w0.alloc (.cells #[.int .i64 i] 3)).alloc (.cells #[.int .i64 n] 3) = w1 at *
  refine HCC.out.mono ?_
  rintro e2 w2 ⟨v, rfl, hO, hb⟩
  have B2 := B1.trans (hb.mono B1.size)
  have T2 := Lib.hid (T0.out.step B2)
  have L2 := Lib.hid (L0.out.step B2)
  obtain ⟨pa, pc, pg, po, rfl, hF⟩ := hO.fst
  have F2 := Lib.hid hF
  have cells := fun j v hj => (B2.cell (p := ⟨w.heap.size, j, none⟩) hl0).trans (hc0.out j v hj)
  have x0 := cells 0 _ rfl
  have x1 := cells 1 _ rfl
  have x2 := cells 2 _ rfl
  have x3 := cells 3 _ rfl
  have x4 := cells 4 _ rfl
  have x5 := cells 5 _ rfl
  clear cells hO hF hb HCC B1 B2 T0 T1 L0 L1 z1 hc0 hl0
  by_cases hne : ls.length = l.length
  · have hne' : ((ls.length : Int) != (l.length : Int)) = false := by rw [hne]; simp
    have hne2 : ((ls.length : Int) == (l.length : Int)) = true := by rw [hne]; simp
    have HNE := Lib.hid hne
    clear hne
    go_wp2_with fail
    refine (FL.out _ T2.out.tabs).mono ?_
    rintro e3 w3 ⟨rfl, hb⟩
    have T3 := Lib.hid (T2.out.step hb)
    have L3 := Lib.hid (L2.out.step hb)
    have F3 := Lib.hid (F2.out.step hb)
    clear hb x0 x1 x2 x3 x4 x5 L2 F2 T2 FL
    go_wp2_with fail
    go_loopg [14, 46] l.length (fun gk now i wr => ∃ (k : Nat) (t : ByteArray), k + gk = l.length ∧ i = .int .i64 (k : Nat) ∧ now = .string t ∧ t = leadL nodB lf (ls.reverse.take k) (l.take k) ∧ Below w3.heap.size w3 wr)
    case atStart => exact ⟨0, lf, by omega, rfl, rfl, rfl, Below.refl _ _⟩
    case round =>
      obtain ⟨k, t, hk, rfl, rfl, ht, br⟩ := hrel
      have T4 := Lib.hid (T3.out.step br)
      have L4 := Lib.hid (L3.out.step br)
      have F4 := Lib.hid (F3.out.step br)
      have B4 := Lib.hid br
      have HT := Lib.hid ht
      clear br ht
      by_cases hlt : k < l.length
      · obtain ⟨s, hs⟩ : ∃ s, l[k]? = some s := ⟨_, List.getElem?_eq_getElem hlt⟩
        obtain ⟨x, hx⟩ : ∃ x, ls.reverse[k]? = some x := ⟨_, List.getElem?_eq_getElem (by rw [List.length_reverse]; have := HNE.out; omega)⟩
        have hne := HNE.out
        have hx2 : ls[ls.length - 1 - k]? = some x := by rw [← hx, List.getElem?_reverse (by omega)]
        have hts : t.size ≤ 100000 := by rw [HT.out]; exact leadL_size lf hlf _ _
        have hss : s.size ≤ 100000 := hls s (List.mem_of_getElem? hs)
        have HTK := Lib.hid (lead_take lf ls.reverse l (by rw [List.length_reverse]; exact hne) hx hs)
        obtain ⟨rfl, la⟩ := L4.out.ao (by omega)
        obtain ⟨rfl, lp⟩ := F4.out.ao (by omega)
        have cs := L4.out.at_ k s hs
        have cf := F4.out.at_ (ls.length - 1 - k) x hx2
        have q1 : (ls.length : Int) - 1 - (k : Int) = ((ls.length - 1 - k : Nat) : Int) := by omega
        have q4 : ls.length - 1 - k < ls.length := by omega
        generalize ls.length - 1 - k = q at *
        have q2 : (0 : Int) ≤ (q : Int) := by omega
        have q3 : (q : Int) < (ls.length : Int) := by omega
        have i1 : (k : Int) < (l.length : Int) := by omega
        have i2 : (0 : Int) ≤ (k : Int) := by omega
        have i3 : (k : Int) ≤ 100000 := by omega
        have i4 : (ls.length : Int) ≤ 100000 := by omega
        clear hs hx hx2 hne
        rcases hfx : x.first with _ | _
        · rw [hfx] at cf
          have HTG := Lib.hid (fun w ht => tagged_any nodeW s t w (by decide) hss hts ht)
          have HUP : Hid (upL nodB t x s = tagB nodeW s t) := Lib.hid (by unfold upL; rw [hfx]; rfl)
          generalize tagB nodeW s t = r at *
          clear hfx
          go_wp2_with fail
          refine (HTG.out _ T4.out.tabs).mono ?_
          rintro e5 w5 ⟨rfl, hb⟩
          have B5 := Lib.hid (B4.out.trans (hb.mono B4.out.size))
          clear hb
          go_wp2_with fail
          go_roundg (gk - 1)
          case measure => omega
          case rel => exact ⟨k + 1, r, by omega, by go_num, rfl, by rw [HTK.out, ← HT.out, HUP.out], B5.out⟩
        · rw [hfx] at cf
          have HTG := Lib.hid (fun w ht => tagged_any nodeW t s w (by decide) hts hss ht)
          have HUP : Hid (upL nodB t x s = tagB nodeW t s) := Lib.hid (by unfold upL; rw [hfx]; rfl)
          generalize tagB nodeW t s = r at *
          clear hfx
          go_wp2_with fail
          refine (HTG.out _ T4.out.tabs).mono ?_
          rintro e5 w5 ⟨rfl, hb⟩
          have B5 := Lib.hid (B4.out.trans (hb.mono B4.out.size))
          clear hb
          go_wp2_with fail
          go_roundg (gk - 1)
          case measure => omega
          case rel => exact ⟨k + 1, r, by omega, by go_num, rfl, by rw [HTK.out, ← HT.out, HUP.out], B5.out⟩
      · obtain rfl : k = l.length := by omega
        have i1 : ¬ (l.length : Int) < (l.length : Int) := by omega
        have hne := HNE.out
        have e1 : ls.reverse.take l.length = ls.reverse := List.take_of_length_le (by rw [List.length_reverse]; omega)
        have HT2 := HT.out
        rw [e1, List.take_length] at HT2
        by_cases hr : t = root
        · have hr1 : t.toList = root.toList := by rw [hr]
          have HN : Hid ((decide (ls.length = l.length) && decide (leadL nodB lf ls.reverse l = root)) = true) := Lib.hid (by rw [decide_eq_true hne, decide_eq_true (by rw [← HT2]; exact hr)]; rfl)
          have hr2 : (t.toList == root.toList) = true := by rw [hr1]; simp
          clear hr hr1 HT2 hne
          go_wp2_with fail
          go_ret
          exact ⟨by rw [HN.out]; first | rfl | simp [hr2], T4.out.bel⟩
        · have hr2 := str_ne' hr
          have HN : Hid ((decide (ls.length = l.length) && decide (leadL nodB lf ls.reverse l = root)) = false) := Lib.hid (by rw [decide_eq_false (p := leadL nodB lf ls.reverse l = root) (fun h => hr (by rw [HT2]; exact h)), Bool.and_false])
          clear hr HT2 hne
          go_wp2_with fail
          go_ret
          exact ⟨by rw [HN.out]; first | rfl | simp [hr2], T4.out.bel⟩
  · have hne' : ((ls.length : Int) != (l.length : Int)) = true := bne_iff_ne.2 (by omega)
    have hne2 : ((ls.length : Int) == (l.length : Int)) = false := beq_eq_false_iff_ne.2 (by omega)
    have HN : Hid ((decide (ls.length = l.length) && decide (leadL nodB lf ls.reverse l = root)) = false) := Lib.hid (by rw [decide_eq_false hne, Bool.false_and])
    have HN2 : Hid (decide (ls.length = l.length ∧ leadL nodB lf ls.reverse l = root) = false) := Lib.hid (decide_eq_false fun h => hne h.1)
    clear hne
    go_wp2_with fail
    go_ret
    exact ⟨by first | (rw [HN2.out]; rfl) | (rw [HN.out]; rfl), T2.out.bel⟩
/-- disclose.Check, at every claim. -/
theorem Check34_any (root salt : ByteArray) (n i : Int) (x : Fct) (l : List ByteArray) (ao : Option Addr) (lb lo c0 : Nat) (w : World) (hx : x.I) (hs : salt.size ≤ 100000) (hl : l.length ≤ 100000) (hls : ∀ s ∈ l, s.size ≤ 100000) (hat : StrsAt w ao lb lo l) (ht : Tabs w) :
    Calls Tryd.prog 27 #[.string root, .int .i64 n, .int .i64 i, .agg x.vals, .string salt, .slice ao l.length c0] w fun e w' => e = .returned (.bool (checkB root n i (leafB x salt) l)) ∧ Below w.heap.size w w' := by
  by_cases h : n < 1 ∨ 4000 < n ∨ i < 0 ∨ n ≤ i
  · rw [checkB_no (fun hh => hh.1 h)]
    refine Check34_arg _ _ _ n i x w _ _ _ _ rfl rfl rfl rfl ?_
    simp only [Bool.or_eq_true, decide_eq_true_eq]
    omega
  · obtain ⟨N, rfl⟩ := Int.eq_ofNat_of_zero_le (show 0 ≤ n by omega)
    obtain ⟨I, rfl⟩ := Int.eq_ofNat_of_zero_le (show 0 ≤ i by omega)
    have := Check34_in root salt N I x l ao lb lo c0 w (by omega) (by omega) (by omega) hx hs hl hls hat ht
    have e : decide ((lvls I 0 N).length = l.length ∧ leadL nodB (leafB x salt) (lvls I 0 N).reverse l = root) = checkB root N I (leafB x salt) l := by
      rw [Bool.eq_iff_iff, checkB_iff, decide_eq_true_eq, Int.toNat_natCast, Int.toNat_natCast]
      exact ⟨fun hh => ⟨h, hh⟩, fun hh => hh.2⟩
    rw [e] at this
    exact this
end Go.Proofs.YtpdbcahiipbhnaaDoor
