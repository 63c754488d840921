/- Layer 34: the levels of a leaf: the iterator. -/
import Derived.RangeFuncNested
import Derived.RangeFuncBound
import Derived.RangeFuncCalls
import Derived.RangeFuncLeaves
import Derived.Shelf.Abstract
import Derived.Shelf.RegionOpen
import Derived.WalkKit
import Derived.OwnWalkIn
import Derived.TacticsInMore
import Derived.LoopNIn
import Derived.LoopIn
import Derived.Test.YtpdbcahiipbhnaaDoorN2
namespace Go.Proofs.YtpdbcahiipbhnaaDoor
open Go.RowKit Go.Shelf
attribute [local go_sem] Oper.semAt_some

/-- The block in which the slice in the box B lies. -/
def rowOf (W : World) (B : Nat) : Option Nat := (W.cell? ⟨B, 0, none⟩).bind Value.ownBlock
/-- What a round keeps: all cells but those of the box B and of its slice; the slice lies where it lay, or in a new block. -/
structure KpR (B : Nat) (W W' : World) : Prop where
  size : W.heap.size ≤ W'.heap.size
  keep : ∀ b o, W.heap[b]? = some o → o.isCells = true → b ≠ B → rowOf W B ≠ some b → W'.heap[b]? = some o
  row : ∀ r, rowOf W' B = some r → rowOf W B = some r ∨ (W.heap.size ≤ r ∧ r < W'.heap.size)
theorem KpR.refl (B : Nat) (W : World) : KpR B W W := ⟨Nat.le_refl _, fun _ _ h _ _ _ => h, fun _ h => .inl h⟩
theorem KpR.trans {B : Nat} {W W' W'' : World} (h : KpR B W W') (h' : KpR B W' W'') : KpR B W W'' := by
  refine ⟨Nat.le_trans h.size h'.size, fun b o h1 h2 h3 h4 => ?_, fun r hr => ?_⟩
  · refine h'.keep b o (h.keep b o h1 h2 h3 h4) h2 h3 fun h5 => ?_
    have hb : b < W.heap.size := (Array.getElem?_eq_some_iff.1 h1).1
    rcases h.row b h5 with h6 | h6
    · exact h4 h6
    · omega
  · rcases h'.row r hr with h6 | h6
    · rcases h.row r h6 with h7 | h7
      · exact .inl h7
      · exact .inr ⟨h7.1, Nat.lt_of_lt_of_le h7.2 h'.size⟩
    · exact .inr ⟨Nat.le_trans h.size h6.1, h6.2⟩
theorem rowOf_below {B : Nat} {W W' : World} (hb : Below W.heap.size W W') (hB : B < W.heap.size) : rowOf W' B = rowOf W B := by
  unfold rowOf; rw [hb.cell (p := ⟨B, 0, none⟩) hB]
theorem KpR.below {B : Nat} {W W' : World} (hb : Below W.heap.size W W') (hB : B < W.heap.size) : KpR B W W' :=
  ⟨hb.size, fun b o h1 _ _ _ => (hb.block b (Array.getElem?_eq_some_iff.1 h1).1).trans h1, fun r hr => .inl (by rw [← rowOf_below hb hB]; exact hr)⟩
theorem KpR.put {B : Nat} {W : World} {l : Nat} {o o' : Obj} (hl : W.heap[l]? = some o) (hc : o.isCells = false) (hne : l ≠ B) : KpR B W (W.putObj l o') := by
  have hk : ∀ b, b ≠ l → (W.putObj l o').heap[b]? = W.heap[b]? := fun b hb => by simp [World.putObj, Ne.symm hb]
  have hs : (W.putObj l o').heap.size = W.heap.size := by simp [World.putObj]
  have hr : rowOf (W.putObj l o') B = rowOf W B := by
    unfold rowOf; rw [World.cell?_of_block (w := W) (a := ⟨B, 0, none⟩) (hk B (Ne.symm hne))]
  refine ⟨by rw [hs]; exact Nat.le_refl _, fun b x h1 h2 _ _ => ?_, fun r h => .inl (by rw [← hr]; exact h)⟩
  rw [hk b (fun e => by rw [e, hl] at h1; cases h1; rw [hc] at h2; cases h2)]; exact h1
theorem cell_obj {W : World} {a : Addr} {v : Value} (h : W.cell? a = some v) : ∃ o, W.heap[a.block]? = some o ∧ o.isCells = true := by
  unfold World.cell? at h
  rcases ho : W.heap[a.block]? with _ | o
  · rw [ho] at h; simp at h
  · rw [ho] at h
    refine ⟨o, rfl, ?_⟩
    cases o <;> simp_all [Obj.isCells]
theorem KpR.cell {B : Nat} {W W' : World} (h : KpR B W W') {b o : Nat} {v : Value} (hc : W.cell? ⟨b, o, none⟩ = some v) (h1 : b ≠ B) (h2 : rowOf W B ≠ some b) : W'.cell? ⟨b, o, none⟩ = some v := by
  obtain ⟨x, hx, hy⟩ := cell_obj hc
  rw [World.cell?_of_block (w := W) (a := ⟨b, o, none⟩) ((h.keep b x hx hy h1 h2).trans hx.symm)]; exact hc
abbrev encLev (x : Lev) : Array Value := #[.agg #[.int .i64 x.lo, .int .i64 x.mid, .int .i64 x.hi, .bool x.first]]
set_option maxHeartbeats 2000000 in
set_option maxRecDepth 100000 in
theorem lev1_in (m : Nat) (hm : 2 ≤ m) (l Bn Bi B i N : Nat) (hN : N ≤ 100000) (J Jx : List Lev → World → Prop) (W : World) (hJ : AbidesFrom W.heap.size J)
    (hY : ∀ pre x W1, J pre W1 → pre.length < N → x ∈ lvls i 0 N → YieldAt Fence.wide (m - 1) Tryd.prog l (encLev x) W1 fun e W' => (e = .returned (.bool true) ∧ J (pre ++ [x]) W' ∧ KpR B W1 W') ∨ (e = .returned (.bool false) ∧ Jx (pre ++ [x]) W'))
    (hBn : W.cell? ⟨Bn, 0, none⟩ = some (.int .i64 N)) (hBi : W.cell? ⟨Bi, 0, none⟩ = some (.int .i64 i)) (h1 : Bi ≠ B) (hrow : ∀ r, rowOf W B = some r → r < W.heap.size ∧ r ≠ Bi) (hB : B < W.heap.size) (hBi2 : Bi < W.heap.size) (h0 : J [] W) :
    CallsIn Fence.wide m Tryd.prog 86 #[.func (.yield l) #[] #[], .pointer (some ⟨Bn, 0, none⟩), .pointer (some ⟨Bi, 0, none⟩)] W fun e W' => (∃ v, e = .returned v) ∧
      ((∃ ys, ys = lvls i 0 N ∧ J ys W') ∨ (∃ pre, pre <+: lvls i 0 N ∧ Jx pre W')) := by
  refine callsIn_of_wp Tryd.func86 rfl trivial ?_ rfl
  simp only [Tryd.ntmps86, List.size_toArray, List.length_cons, List.length_nil, Nat.reduceAdd, Nat.reduceSub, Array.replicate_succ, Array.replicate_zero, List.push_toArray, List.append_toArray, List.nil_append, List.cons_append]
  gi_wp2
  gi_region
  all_goals gi_wp2
  generalize hW0 : W = W0 at *
  gi_loopw [4, 5] (fun fr ti wr => ∃ (pre : List Lev) (a b : Nat), fr = .int .i64 (a : Nat) ∧ ti = .int .i64 (b : Nat) ∧ a ≤ b ∧ b ≤ N ∧ pre ++ lvls i a (b - a) = lvls i 0 N ∧ J pre wr ∧ wr.cell? ⟨Bi, 0, none⟩ = some (.int .i64 i) ∧ (∀ r, rowOf wr B = some r → r < wr.heap.size ∧ r ≠ Bi) ∧ W0.heap.size ≤ wr.heap.size) (fun fr ti _ => (intOf ti).toNat - (intOf fr).toNat)
  case atStart => exact ⟨[], 0, N, rfl, rfl, by omega, by omega, rfl, hJ _ _ _ none h0 ⟨rfl, rfl, rfl, Nat.le_refl _, fun _ _ _ => rfl⟩ (fun r e => by cases e), hBi, hrow, Nat.le_refl _⟩
  case round =>
    obtain ⟨pre, a, b, rfl, rfl, hab, hbN, hx, hJs, hci, hro, hsz⟩ := hrel
    by_cases h2 : 2 ≤ b - a
    · rw [lvls_two _ _ _ h2] at hx
      have hh := halfN_lt h2
      have hp := halfN_pos (b - a)
      have e2 : (b : Int) - (a : Int) = ((b - a : Nat) : Int) := by omega
      have hx2 : pre ++ ([(⟨a, a + halfN (b - a), b, decide (i < a + halfN (b - a))⟩ : Lev)] ++ (if i < a + halfN (b - a) then lvls i a (a + halfN (b - a) - a) else lvls i (a + halfN (b - a)) (b - (a + halfN (b - a))))) = lvls i 0 N := by
        rw [← hx, show a + (b - a) = b by omega, show a + halfN (b - a) - a = halfN (b - a) by omega, show b - (a + halfN (b - a)) = b - a - halfN (b - a) by omega]; rfl
      clear hx
      obtain ⟨c, hc⟩ : ∃ c, c = a + halfN (b - a) := ⟨_, rfl⟩
      have e3 : (a : Int) + ((halfN (b - a) : Nat) : Int) = (c : Int) := by omega
      rw [← hc] at hx2
      have hac : a < c := by omega
      have hcb2 : c < b := by omega
      clear hc
      generalize hdf : b - a = df at *
      have e4 : (1 : Int) < (df : Int) := by omega
      have e5 : (df : Int) ≤ 100000 := by omega
      have e6 : (b : Int) ≤ 100000 := by omega
      have e7 : (c : Int) ≤ 100000 := by omega
      have e8 : (a : Int) ≤ 100000 := by omega
      by_cases hic : i < c
      · have hif : (i : Int) < (c : Int) := by omega
        have hdc : decide (i < c) = true := decide_eq_true hic
        rw [hdc] at hx2
        have hxx : (pre ++ [(⟨a, c, b, true⟩ : Lev)]) ++ lvls i a (c - a) = lvls i 0 N := by rw [List.append_assoc]; rw [if_pos hic] at hx2; exact hx2
        have hJ2 : J pre (wr.alloc (.cells #[.int .i64 a, .int .i64 c, .int .i64 b, .bool true] 81)) := hJ pre wr _ none hJs (World.grownBy_alloc wr _ none) (fun r e => by cases e)
        have hpl : pre.length < N := by
          have h3 := lvls_len i N 0
          rw [← hxx, List.length_append, List.length_append] at h3
          simp at h3; omega
        obtain ⟨fn, tmps, assign, body, hy, hR⟩ := hY pre ⟨a, c, b, true⟩ _ hJ2 hpl (by rw [← hxx]; simp)
        dsimp only [encLev] at hy
        have hrw : rowOf (wr.alloc (.cells #[.int .i64 a, .int .i64 c, .int .i64 b, .bool true] 81)) B = rowOf wr B := rowOf_below (alloc_below wr _) (by omega)
        have hcb : (wr.alloc (.cells #[.int .i64 a, .int .i64 c, .int .i64 b, .bool true] 81)).cell? ⟨wr.heap.size, 3, none⟩ = some (.bool true) := new0 rfl rfl
        have hc2 : (wr.alloc (.cells #[.int .i64 a, .int .i64 c, .int .i64 b, .bool true] 81)).cell? ⟨Bi, 0, none⟩ = some (.int .i64 i) := ((alloc_below wr _).cell (p := ⟨Bi, 0, none⟩) (by show Bi < _; omega)).trans hci
        have hs2 : (wr.alloc (.cells #[.int .i64 a, .int .i64 c, .int .i64 b, .bool true] 81)).heap.size = wr.heap.size + 1 := by simp
        gi_wp2_with (refine ⟨trivial, fun _ => by omega, ?_⟩; gi_at_call 58; refine (callsIn_wide.2 (half_any df _ (by omega))).mono ?_; rintro e w' ⟨rfl, rfl⟩)
        refine ⟨fun _ => by omega, ?_⟩
        refine hR.mono ?_
        rintro e W3 (⟨rfl, hJ3, hk3⟩ | ⟨rfl, hJx3⟩)
        · have hf3 : W3.cell? ⟨wr.heap.size, 3, none⟩ = some (.bool true) := hk3.cell hcb (by omega) (by rw [hrw]; intro e; have := (hro _ e).1; omega)
          have hi3 : W3.cell? ⟨Bi, 0, none⟩ = some (.int .i64 i) := hk3.cell hc2 h1 (by rw [hrw]; intro e; exact (hro _ e).2 rfl)
          have hz3 := hk3.size
          have hr3 : ∀ r, rowOf W3 B = some r → r < W3.heap.size ∧ r ≠ Bi := fun r hr => by
            rcases hk3.row r hr with h5 | h5
            · rw [hrw] at h5
              have := hro r h5
              exact ⟨by omega, this.2⟩
            · exact ⟨h5.2, by omega⟩
          gi_wp2
          go_roundw
          case rel => exact ⟨_, a, c, by go_num, by go_num, by omega, by omega, hxx, hJ3, hi3, hr3, by omega⟩
          case measure => simp [intOf]; omega
        · gi_wp2
          refine bodyPost_ret (results_none rfl _ _ _) rfl ?_
          exact ⟨⟨_, rfl⟩, .inr ⟨_, ⟨_, hxx⟩, hJx3⟩⟩
      · have hif : ¬ (i : Int) < (c : Int) := by omega
        have hdc : decide (i < c) = false := decide_eq_false hic
        rw [hdc] at hx2
        have hxx : (pre ++ [(⟨a, c, b, false⟩ : Lev)]) ++ lvls i c (b - c) = lvls i 0 N := by rw [List.append_assoc]; rw [if_neg hic] at hx2; exact hx2
        have hJ2 : J pre (wr.alloc (.cells #[.int .i64 a, .int .i64 c, .int .i64 b, .bool false] 81)) := hJ pre wr _ none hJs (World.grownBy_alloc wr _ none) (fun r e => by cases e)
        have hpl : pre.length < N := by
          have h3 := lvls_len i N 0
          rw [← hxx, List.length_append, List.length_append] at h3
          simp at h3; omega
        obtain ⟨fn, tmps, assign, body, hy, hR⟩ := hY pre ⟨a, c, b, false⟩ _ hJ2 hpl (by rw [← hxx]; simp)
        dsimp only [encLev] at hy
        have hrw : rowOf (wr.alloc (.cells #[.int .i64 a, .int .i64 c, .int .i64 b, .bool false] 81)) B = rowOf wr B := rowOf_below (alloc_below wr _) (by omega)
        have hcb : (wr.alloc (.cells #[.int .i64 a, .int .i64 c, .int .i64 b, .bool false] 81)).cell? ⟨wr.heap.size, 3, none⟩ = some (.bool false) := new0 rfl rfl
        have hc2 : (wr.alloc (.cells #[.int .i64 a, .int .i64 c, .int .i64 b, .bool false] 81)).cell? ⟨Bi, 0, none⟩ = some (.int .i64 i) := ((alloc_below wr _).cell (p := ⟨Bi, 0, none⟩) (by show Bi < _; omega)).trans hci
        have hs2 : (wr.alloc (.cells #[.int .i64 a, .int .i64 c, .int .i64 b, .bool false] 81)).heap.size = wr.heap.size + 1 := by simp
        gi_wp2_with (refine ⟨trivial, fun _ => by omega, ?_⟩; gi_at_call 58; refine (callsIn_wide.2 (half_any df _ (by omega))).mono ?_; rintro e w' ⟨rfl, rfl⟩)
        refine ⟨fun _ => by omega, ?_⟩
        refine hR.mono ?_
        rintro e W3 (⟨rfl, hJ3, hk3⟩ | ⟨rfl, hJx3⟩)
        · have hf3 : W3.cell? ⟨wr.heap.size, 3, none⟩ = some (.bool false) := hk3.cell hcb (by omega) (by rw [hrw]; intro e; have := (hro _ e).1; omega)
          have hi3 : W3.cell? ⟨Bi, 0, none⟩ = some (.int .i64 i) := hk3.cell hc2 h1 (by rw [hrw]; intro e; exact (hro _ e).2 rfl)
          have hz3 := hk3.size
          have hr3 : ∀ r, rowOf W3 B = some r → r < W3.heap.size ∧ r ≠ Bi := fun r hr => by
            rcases hk3.row r hr with h5 | h5
            · rw [hrw] at h5
              have := hro r h5
              exact ⟨by omega, this.2⟩
            · exact ⟨h5.2, by omega⟩
          gi_wp2
          go_roundw
          case rel => exact ⟨_, c, b, by go_num, by go_num, by omega, by omega, hxx, hJ3, hi3, hr3, by omega⟩
          case measure => simp [intOf]; omega
        · gi_wp2
          refine bodyPost_ret (results_none rfl _ _ _) rfl ?_
          exact ⟨⟨_, rfl⟩, .inr ⟨_, ⟨_, hxx⟩, hJx3⟩⟩
    · have e2 : ¬ (1 : Int) < (b : Int) - (a : Int) := by omega
      have e6 : (b : Int) ≤ 100000 := by omega
      have e8 : (a : Int) ≤ 100000 := by omega
      rw [lvls_one _ _ _ (by omega), List.append_nil] at hx
      gi_wp2
      go_end0
      exact ⟨⟨_, rfl⟩, .inl (hx ▸ hJs)⟩
theorem lev_stops (m : Nat) (hm : 2 ≤ m) (Bn Bi B i N : Nat) (hN : N ≤ 100000) (w : World) (hBn : w.cell? ⟨Bn, 0, none⟩ = some (.int .i64 N)) (hBi : w.cell? ⟨Bi, 0, none⟩ = some (.int .i64 i)) (hn : Bn < w.heap.size) (hi : Bi < w.heap.size) (h1 : Bi ≠ B) (hB : B < w.heap.size) (hrow : rowOf w B = none) :
    SeqStopsK Fence.wide m Tryd.prog 86 #[.pointer (some ⟨Bn, 0, none⟩), .pointer (some ⟨Bi, 0, none⟩)] encLev (KpR B) (fun ys => ys = lvls i 0 N) (fun pre => pre <+: lvls i 0 N) N w := fun l J Jx W hW hJ _ hY h0 =>
  lev1_in m hm l Bn Bi B i N hN J Jx W hJ (fun pre x W1 h1 h2 _ => hY pre x W1 h1 h2) ((hW.cell (p := ⟨Bn, 0, none⟩) hn).trans hBn) ((hW.cell (p := ⟨Bi, 0, none⟩) hi).trans hBi) h1 (fun r hr => by rw [rowOf_below hW hB, hrow] at hr; cases hr) (Nat.lt_of_lt_of_le hB hW.size) (Nat.lt_of_lt_of_le hi hW.size) h0
/-- The same, of levels that are known to be such. -/
theorem lev_stopsM (m : Nat) (hm : 2 ≤ m) (Bn Bi B i N : Nat) (hN : N ≤ 100000) (w : World) (hBn : w.cell? ⟨Bn, 0, none⟩ = some (.int .i64 N)) (hBi : w.cell? ⟨Bi, 0, none⟩ = some (.int .i64 i)) (hn : Bn < w.heap.size) (hi : Bi < w.heap.size) (h1 : Bi ≠ B) (hB : B < w.heap.size) (hrow : rowOf w B = none) :
    SeqStopsK Fence.wide m Tryd.prog 86 #[.pointer (some ⟨Bn, 0, none⟩), .pointer (some ⟨Bi, 0, none⟩)] (fun x : { x : Lev // x ∈ lvls i 0 N } => encLev x.1) (KpR B) (fun ys => ys.map (·.1) = lvls i 0 N) (fun pre => pre.map (·.1) <+: lvls i 0 N) N w := fun l J Jx W hW hJ hJx hY h0 => by
  refine (lev1_in m hm l Bn Bi B i N hN (fun pre W => ∃ q : List { x : Lev // x ∈ lvls i 0 N }, q.map (·.1) = pre ∧ J q W) (fun pre W => ∃ q : List { x : Lev // x ∈ lvls i 0 N }, q.map (·.1) = pre ∧ Jx q W) W
    (fun s A C row ⟨q, hq, hs⟩ hg hr => ⟨q, hq, hJ q A C row hs hg hr⟩) ?_ ((hW.cell (p := ⟨Bn, 0, none⟩) hn).trans hBn) ((hW.cell (p := ⟨Bi, 0, none⟩) hi).trans hBi) h1 (fun r hr => by rw [rowOf_below hW hB, hrow] at hr; cases hr) (Nat.lt_of_lt_of_le hB hW.size) (Nat.lt_of_lt_of_le hi hW.size) ⟨[], rfl, h0⟩).mono ?_
  · rintro pre x W1 ⟨q, rfl, hq⟩ hlen hx
    obtain ⟨fn, tmps, assign, body, hy, hR⟩ := hY q ⟨x, hx⟩ W1 hq (by simpa using hlen)
    refine ⟨fn, tmps, assign, body, hy, hR.mono ?_⟩
    rintro e W' (⟨rfl, h1, h2⟩ | ⟨rfl, h1⟩)
    · exact .inl ⟨rfl, ⟨_, by simp, h1⟩, h2⟩
    · exact .inr ⟨rfl, ⟨_, by simp, h1⟩⟩
  · rintro e W' ⟨hv, ⟨ys, rfl, q, hq, h⟩ | ⟨pre, hp, q, rfl, h⟩⟩
    · exact ⟨hv, .inl ⟨q, hq, h⟩⟩
    · exact ⟨hv, .inr ⟨q, hp, h⟩⟩
set_option maxHeartbeats 1000000 in
theorem levels_any (i n : Nat) (w : World) :
    Calls Tryd.prog 51 #[.int .i64 i, .int .i64 n] w fun e w' => e = .returned (.func (.func 86) #[] #[.pointer (some ⟨w.heap.size + 1, 0, none⟩), .pointer (some ⟨w.heap.size, 0, none⟩)]) ∧ w' = (w.alloc (.cells #[.int .i64 i] 3)).alloc (.cells #[.int .i64 n] 3) := by
  go_enter Tryd.func51, Tryd.ntmps51
  go_wp2_with fail
  go_ret
  exact ⟨by simp, rfl⟩
/-- Appending: the slice lies where it lay, or in a new block. -/
theorem run_append_blk {P : Program} {w : World} (B : Nat) (t tx ty e : TypeId) (i : TypeInfo) (z : Value) (size bytes : Nat) (ht : P.underlying t = some (.slice e)) (hi : P.info? e = some i) (hz : i.zero = some z)
    (hsize : i.size = size) (hby : i.bytes = bytes) (hzs : z.cells.size = size)
    (v : Value) (n : Nat) (xs : List Value) (hown : Own w B size v n xs) (x : Value) (m : Nat) (news : List Value) (hsrc : Src P size tx x m news w)
    (h63 : n + m ≤ maxLen) (hbytes : (n + m) * bytes ≤ 140737488355328) :
    ∃ v' w', (Builtin.append_ #[t, tx] ty #[v, x]).run P w = .ok v' w' ∧ (∀ r, v'.ownBlock = some r → v.ownBlock = some r ∨ (w.heap.size ≤ r ∧ r < w'.heap.size)) := by
  subst hsize
  subst hby
  have h63' : n + m ≤ 9223372036854775807 := by simp only [maxLen] at h63; omega
  have hlen : (xs ++ news).length = (n + m) * i.size := by rw [List.length_append, hown.1, hsrc.newsLen, Nat.add_mul]
  rcases hown.2 with ⟨rfl, rfl⟩ | ⟨g, o, cap, rfl, hBg, hgs, hnc, hcm, hr, hth⟩
  · have hx : xs = [] := List.eq_nil_of_length_eq_zero (by simpa using hown.1)
    subst hx
    by_cases hm : m = 0
    · subst hm
      have hn : news = [] := List.eq_nil_of_length_eq_zero (by simpa using hsrc.newsLen)
      subst hn
      refine ⟨.slice none 0 0, w, ?_, fun r hr => by cases hr⟩
      have hc := hsrc.cells
      rcases hsrc.kind with ⟨e', hk⟩ | hk <;> simp [Builtin.append_, run_underlying ht, run_underlying hk, sizeOf, typeInfo, hi, hsrc.len, hc]
    · have hg := run_append_grow_src (P := P) w t tx ty e i z ht hi hz none 0 0 [] (by simp [Builtin.firstCells]) x m news hsrc (by omega) (by omega) (growslice_fits (by omega) hbytes)
      exact ⟨_, _, hg, fun r hr => .inr (by cases hr; simp)⟩
  · by_cases hroom : n + m ≤ cap
    · have hin : ∀ j, j < news.length → n * i.size + j < cap * i.size := fun j hj => by
        have h1 := hsrc.newsLen
        have h2 : (n + m) * i.size ≤ cap * i.size := Nat.mul_le_mul_right _ hroom
        rw [Nat.add_mul] at h2; omega
      have hth' : w.there g (o + n * i.size) news.length := fun j hj => by
        have := hth (n * i.size + j) (hin j hj)
        rwa [← Nat.add_assoc] at this
      have hg := run_append_room_src (P := P) w t tx ty e i ht hi g o n cap x m news hsrc hroom (fun j hj => (hth' j hj).1) (fun j hj => (hth' j hj).2)
      exact ⟨_, _, hg, fun r hr => .inl (by cases hr; rfl)⟩
    · have hold : (Builtin.firstCells i.size n (.slice (some ⟨g, o, none⟩) n cap)).run P w.drew = .ok xs.toArray w.drew :=
        run_firstCells_some (P := P) w.drew i.size n ⟨g, o, none⟩ n cap xs hown.1 (fun j u hj => by rw [Addr.add_mid]; exact hr j u hj)
      have hg := run_append_grow_src (P := P) w t tx ty e i z ht hi hz (some ⟨g, o, none⟩) n cap xs hold x m news hsrc (by omega) (by omega) (growslice_fits (by omega) hbytes)
      exact ⟨_, _, hg, fun r hr => .inr (by cases hr; simp)⟩
/-- Append, in a round: who owns what; where the slice lies. -/
theorem wpListIn_append_blk {F : Fence} {k : Nat} {P : Program} {w : World} {ops : Array Oper} {rest : List Oper} {op : Oper} {a : Act} {Q : Exit → Act → World → Prop} (hgd : op.guard = none) (s x : Operand) (t tx : TypeId)
    (ho : op.op = .call { callee := .builtin .append, args := #[s, x], argTypes := #[t, tx] })
    (B : Nat) (e : TypeId) (i : TypeInfo) (z : Value) (size bytes : Nat) (ht : P.underlying t = some (.slice e)) (hi : P.info? e = some i) (hz : i.zero = some z)
    (hsize : i.size = size) (hby : i.bytes = bytes) (hzs : z.cells.size = size)
    (v : Value) (n : Nat) (xs : List Value) (hs : a.eval s = v) (hown : Own w B size v n xs) (xv : Value) (m : Nat) (news : List Value) (hx : a.eval x = xv) (hsrc : Src P size tx xv m news w)
    (h63 : n + m ≤ maxLen) (hbytes : (n + m) * bytes ≤ 140737488355328) (hbase : B ≤ w.heap.size)
    (h : ∀ v' w', Own w' B size v' (n + m) (xs ++ news) → w.grownBy w' v.ownBlock → (n + m ≠ 0 → v' ≠ .slice none 0 0) → (∀ r, v'.ownBlock = some r → v.ownBlock = some r ∨ (w.heap.size ≤ r ∧ r < w'.heap.size)) → wpListIn F k P ops Q rest (a.put op.dst v') w') : wpListIn F k P ops Q (op :: rest) a w :=
  wpListIn_plain hgd fun _ hK => by
    obtain ⟨v', w', hr, h2, h3, h4⟩ := run_append_Own (P := P) B t tx op.type e i z size bytes ht hi hz hsize hby hzs v n xs hown xv m news hsrc h63 hbytes hbase
    obtain ⟨v2, w2, hr2, h5⟩ := run_append_blk (P := P) B t tx op.type e i z size bytes ht hi hz hsize hby hzs v n xs hown xv m news hsrc h63 hbytes
    rw [hr] at hr2
    cases hr2
    unfold Oper.wpIn
    refine ⟨?_, ?_⟩
    · simp [Oper.about, ho, resolve, Target.leads, Sem.run_pure]
    · rw [Oper.semAt_plain F _ _ (by rw [ho]; intro c hc'; cases hc')]
      simp [execOp, ho, resolve, invoke, builtin, hs, hx, hr, Result.andThen]
      exact hK _ _ (h v' w' h2 h3 h4 h5)
end Go.Proofs.YtpdbcahiipbhnaaDoor
