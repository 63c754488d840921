/- Layer 34: the levels, collected. -/
import Derived.RangeFuncNested
import Derived.RangeFuncBound
import Derived.RangeFuncCalls
import Derived.RangeFuncLeaves
import Derived.Shelf.Abstract
import Derived.Shelf.RegionOpen
import Derived.WalkKit
import Derived.OwnWalkIn
import Derived.TacticsInMore
import Derived.LoopNIn
import Derived.LoopIn
import Derived.Test.YtpdbcahiipbhnaaDoorN3
namespace Go.Proofs.YtpdbcahiipbhnaaDoor
open Go.RowKit Go.Shelf
attribute [local go_sem] Oper.semAt_some

def Lev.cells (x : Lev) : List Value := [.int .i64 x.lo, .int .i64 x.mid, .int .i64 x.hi, .bool x.first]
def cellsV (l : List Lev) : List Value := l.flatMap Lev.cells
theorem cellsV_snoc (l : List Lev) (x : Lev) : cellsV (l ++ [x]) = cellsV l ++ x.cells := by simp [cellsV]
theorem infoLev : (Tryd.prog.info? 81).map (fun i => (i.zero, i.size, i.bytes)) = some (some (.agg #[.int .i64 0, .int .i64 0, .int .i64 0, .bool false]), 4, 32) := by kernel_rfl
theorem src_lev {w : World} {g : Nat} (x : Lev) (h : w.rangeAt g 0 x.cells) : Src Tryd.prog 4 88 (.slice (some ⟨g, 0, none⟩) 1 1) 1 x.cells w :=
  Src.ofSlice w Tryd.underlying88 ⟨g, 0, none⟩ 1 1 x.cells rfl (fun j u hj => by rw [Addr.add_mid]; exact h j u hj) (fun u hu => by
    simp only [Lev.cells, List.mem_cons, List.not_mem_nil, or_false] at hu
    rcases hu with rfl | rfl | rfl | rfl <;> rfl)
/-- A slice of one's own: in the box B; nil just where it is empty. -/
structure Mine (B sz : Nat) (n : Nat) (xs : List Value) (W : World) : Prop where
  ex : ∃ v, W.cell? ⟨B, 0, none⟩ = some v ∧ W.frozen? ⟨B, 0, none⟩ = false ∧ Own W B sz v n xs ∧ (n = 0 → v = .slice none 0 0) ∧ v.ownBlock ≠ some B
theorem cell_blt {W : World} {a : Addr} {v : Value} (h : W.cell? a = some v) : a.block < W.heap.size := by
  obtain ⟨o, ho, _⟩ := cell_obj h
  exact (Array.getElem?_eq_some_iff.1 ho).1
theorem Mine.lt {B sz n : Nat} {xs : List Value} {W : World} (h : Mine B sz n xs W) : B < W.heap.size := by
  obtain ⟨v, h1, _⟩ := h.ex; exact cell_blt h1
theorem own_cells {W : World} {B sz n : Nat} {v : Value} {xs : List Value} (hsz : 0 < sz) (h3 : Own W B sz v n xs) (h4 : n = 0 → v = .slice none 0 0) (j : Nat) (o : Obj) (hj : v.ownBlock = some j) (ho : W.heap[j]? = some o) : o.isCells = true := by
  rcases h3.2 with ⟨rfl, _⟩ | ⟨g, o', cap, rfl, hB, hgs, hnc, hcm, hrr, hth⟩
  · cases hj
  · by_cases hn : n = 0
    · have := h4 hn; cases this
    · cases hj
      have hc := (hth 0 (Nat.mul_pos (by omega) hsz)).1
      obtain ⟨u, hu⟩ := Option.isSome_iff_exists.1 hc
      obtain ⟨x, hx, hy⟩ := cell_obj hu
      rw [show (⟨g, o' + 0, none⟩ : Addr).block = g from rfl, ho] at hx
      cases hx; exact hy
theorem Mine.own {W W' : World} {B sz n base : Nat} {xs : List Value} {row : Option Nat} (hsz : 0 < sz) (hs : Mine B sz n xs W) (hg : W.grownBy W' row) (hr : ∀ r, row = some r → base ≤ r ∧ ∃ o : Obj, W.heap[r]? = some o ∧ o.isCells = false) : Mine B sz n xs W' := by
  obtain ⟨v, h1, h2, h3, h4, h5⟩ := hs.ex
  have e1 : W'.heap[B]? = W.heap[B]? := by
    obtain ⟨x, hx, hy⟩ := cell_obj h1
    refine hg.block B (Array.getElem?_eq_some_iff.1 hx).1 fun e => ?_
    obtain ⟨_, x', hx', hy'⟩ := hr B e.symm
    rw [show (⟨B, 0, none⟩ : Addr).block = B from rfl, hx'] at hx; cases hx; rw [hy] at hy'; cases hy'
  refine ⟨v, (World.cell?_of_block (w := W) (a := ⟨B, 0, none⟩) e1).trans h1, (World.frozen?_of_block (w := W) (a := ⟨B, 0, none⟩) e1).trans h2, ?_, h4, h5⟩
  refine h3.keep hg.size fun g hgb => hg.block g (h3.lt g hgb).2 fun e => ?_
  obtain ⟨_, x', hx', hy'⟩ := hr g e.symm
  rw [own_cells hsz h3 h4 g x' hgb hx'] at hy'; cases hy'
/-- A round's append, and its store into the box. -/
theorem mine_push {Wa w1 : World} {B sz n cx : Nat} {ax : Option Addr} {v : Value} {xs news : List Value} (hsz : 0 < sz) (h1 : Wa.cell? ⟨B, 0, none⟩ = some v) (h2 : Wa.frozen? ⟨B, 0, none⟩ = false) (h3 : Own Wa B sz v n xs) (h4 : n = 0 → v = .slice none 0 0) (h5 : v.ownBlock ≠ some B)
    (hown : Own w1 B sz (.slice ax (n + 1) cx) (n + 1) (xs ++ news)) (hgrow : Wa.grownBy w1 v.ownBlock) (hblk : ∀ r, (Value.slice ax (n + 1) cx).ownBlock = some r → v.ownBlock = some r ∨ (Wa.heap.size ≤ r ∧ r < w1.heap.size)) :
    (w1.cell? ⟨B, 0, none⟩ = some v ∧ w1.frozen? ⟨B, 0, none⟩ = false) ∧ KeepsOthers Wa (w1.setCell ⟨B, 0, none⟩ (.slice ax (n + 1) cx)) ∧ KpR B Wa (w1.setCell ⟨B, 0, none⟩ (.slice ax (n + 1) cx)) ∧ Mine B sz (n + 1) (xs ++ news) (w1.setCell ⟨B, 0, none⟩ (.slice ax (n + 1) cx)) ∧
      (∀ n₀ w, Below n₀ w Wa → n₀ ≤ B → Below n₀ w (w1.setCell ⟨B, 0, none⟩ (.slice ax (n + 1) cx))) := by
  have hB : B < Wa.heap.size := cell_blt h1
  have e1 : w1.heap[B]? = Wa.heap[B]? := hgrow.block B hB (fun e => h5 e.symm)
  have c1 := (World.cell?_of_block (w := Wa) (a := ⟨B, 0, none⟩) e1).trans h1
  have f1 := (World.frozen?_of_block (w := Wa) (a := ⟨B, 0, none⟩) e1).trans h2
  have hs : (w1.setCell ⟨B, 0, none⟩ (.slice ax (n + 1) cx)).heap.size = w1.heap.size := by simp [World.setCell]
  have c2 : (w1.setCell ⟨B, 0, none⟩ (.slice ax (n + 1) cx)).cell? ⟨B, 0, none⟩ = some (.slice ax (n + 1) cx) := World.cell?_setCell_same' _ _ _ (by rw [c1]; rfl)
  have hrow : rowOf Wa B = v.ownBlock := by unfold rowOf; rw [h1]; rfl
  have hrow2 : rowOf (w1.setCell ⟨B, 0, none⟩ (.slice ax (n + 1) cx)) B = (Value.slice ax (n + 1) cx).ownBlock := by unfold rowOf; rw [c2]; rfl
  refine ⟨⟨c1, f1⟩, (KeepsOthers.of_grownBy hgrow (own_cells hsz h3 h4)).trans (KeepsOthers.setCell _ _ _), ⟨by rw [hs]; exact hgrow.size, fun b o k1 k2 k3 k4 => ?_, fun r hr => ?_⟩, ⟨_, c2, ?_, ?_, fun h => by omega, ?_⟩, fun n₀ w hb hn => ?_⟩
  · rw [Below.heap_setCell _ _ _ _ k3, hgrow.block b (Array.getElem?_eq_some_iff.1 k1).1 (fun e => k4 (by rw [hrow, e]))]; exact k1
  · rw [hrow2] at hr; rw [hrow, hs]; exact hblk r hr
  · rw [World.frozen?_setCell]; exact f1
  · refine hown.setCell _ (fun g hg => ?_) _
    rcases hblk g hg with h | h
    · intro e; exact h5 (by rw [h, e])
    · intro e; have : g = B := e; omega
  · intro e
    rcases hblk B e with h | h
    · exact h5 h
    · omega
  · exact (hb.grown hgrow (Nat.le_trans (by omega) (Nat.le_of_lt hB)) (fun k e => Nat.le_trans hn (h3.lt k e).1)).setCell (p := ⟨B, 0, none⟩) hn _
set_option maxHeartbeats 4000000 in
set_option maxRecDepth 100000 in
theorem AppendSeq_any (Bn Bi i N : Nat) (w : World) (hN : N ≤ 100000) (hBn : w.cell? ⟨Bn, 0, none⟩ = some (.int .i64 N)) (hBi : w.cell? ⟨Bi, 0, none⟩ = some (.int .i64 i)) (hn : Bn < w.heap.size) (hi : Bi < w.heap.size) :
    Calls Tryd.prog 89 #[.slice none 0 0, .func (.func 86) #[] #[.pointer (some ⟨Bn, 0, none⟩), .pointer (some ⟨Bi, 0, none⟩)]] w fun e W' => ∃ v, e = .returned v ∧ Own W' w.heap.size 4 v (lvls i 0 N).length (cellsV (lvls i 0 N)) ∧ Below w.heap.size w W' := by
  refine (callsIn_wide (n := 6)).1 ?_
  refine callsIn_of_wp_marks Tryd.func89 rfl trivial ?_ rfl
  simp only [Tryd.ntmps89, List.size_toArray, List.length_cons, List.length_nil, Nat.reduceAdd, Nat.reduceSub, Array.replicate_succ, Array.replicate_zero, List.push_toArray, List.append_toArray, List.nil_append, List.cons_append]
  gi_wp2
  have hb0 : Below w.heap.size w (w.alloc (.cells #[.slice none 0 0] 88)) := alloc_below w _
  have hc0 : (w.alloc (.cells #[.slice none 0 0] 88)).cell? ⟨w.heap.size, 0, none⟩ = some (.slice none 0 0) := new0 rfl rfl
  have hf0 : (w.alloc (.cells #[.slice none 0 0] 88)).frozen? ⟨w.heap.size, 0, none⟩ = false := (there_new w #[.slice none 0 0] 88 1 (by simp) 0 (by omega)).2
  have hz0 : (w.alloc (.cells #[.slice none 0 0] 88)).heap.size = w.heap.size + 1 := by simp
  generalize w.alloc (.cells #[.slice none 0 0] 88) = W0 at *
  have hM0 : Mine w.heap.size 4 0 [] W0 := ⟨_, hc0, hf0, Own.nil _ _ _, fun _ => rfl, fun h => by cases h⟩
  obtain ⟨i0, hi0, hz, hs4, hs32⟩ := info_parts infoLev
  refine wpIn_rangeFunc_ownH rfl (by omega) (gf := 86) (lb := #[.pointer (some ⟨Bn, 0, none⟩), .pointer (some ⟨Bi, 0, none⟩)]) rfl trivial (enters_of Tryd.func86 (by kernel_rfl) rfl)
    (lev_stops 5 (by omega) Bn Bi w.heap.size i N hN W0 ((hb0.cell (p := ⟨Bn, 0, none⟩) hn).trans hBn) ((hb0.cell (p := ⟨Bi, 0, none⟩) hi).trans hBi) (by omega) (by omega) (by omega) (by omega) (by unfold rowOf; rw [hc0]; rfl))
    KpR.trans (fun W l o o' h1 h2 h3 _ => KpR.put h2 h3 (by omega)) (Below.refl _ _) (fun _ => rfl)
    (fun pre W => Mine w.heap.size 4 pre.length (cellsV pre) W ∧ Below w.heap.size w W)
    (fun _ _ _ => False)
    (OwnFrom.and (fun s A C row hs hg hr => Mine.own (by decide) hs hg hr) (ownFrom_below (Nat.le_refl _) (by omega)))
    (fun _ _ _ _ _ hs _ _ => hs)
    ⟨hM0, hb0⟩
    (fun x a' W => ∃ Bx, w.heap.size < Bx ∧ (W.cell? ⟨Bx, 0, none⟩ = some (.int .i64 x.lo) ∧ W.cell? ⟨Bx, 1, none⟩ = some (.int .i64 x.mid) ∧ W.cell? ⟨Bx, 2, none⟩ = some (.int .i64 x.hi) ∧ W.cell? ⟨Bx, 3, none⟩ = some (.bool x.first)) ∧
      a' = { tmps := #[.slice none 0 0, .func (.func 86) #[] #[.pointer (some ⟨Bn, 0, none⟩), .pointer (some ⟨Bi, 0, none⟩)], .pointer (some ⟨w.heap.size, 0, none⟩), undef, .slice none 0 0, .pointer (some ⟨Bx, 0, none⟩), .func (.func 86) #[] #[.pointer (some ⟨Bn, 0, none⟩), .pointer (some ⟨Bi, 0, none⟩)], .agg #[.int .i64 x.lo, .int .i64 x.mid, .int .i64 x.hi, .bool x.first], undef, undef, undef, undef, undef], defers := [] })
    (fun x a' s A C row hs hg hr => by
      obtain ⟨Bx, k1, ⟨c0, c1, c2, c3⟩, k3⟩ := hs
      have hr' := fun r e => (hr r e).2
      exact ⟨Bx, k1, ⟨cell_kept c0 hg hr', cell_kept c1 hg hr', cell_kept c2 hg hr', cell_kept c3 hg hr'⟩, k3⟩)
    ?assign ?body ?done ?stop
  case assign =>
    rintro l pre x W K ⟨hM, hB⟩ hK
    gi_wp2
    exact hK _ _ ((KeepsOthers.alloc _ _).from _) (KpR.below (alloc_below W _) hM.lt) ⟨Mine.own (base := 0) (by decide) hM (World.grownBy_alloc W _ none) (fun r e => by cases e), hB.trans ((alloc_below W _).mono hB.size)⟩ ⟨W.heap.size, hM.lt, ⟨new0 rfl rfl, new0 rfl rfl, new0 rfl rfl, new0 rfl rfl⟩, rfl⟩
  case body =>
    rintro l pre x a' W hl _ ⟨hM, hB⟩ ⟨Bx, hBx, ⟨c0, c1, c2, c3⟩, rfl⟩ hlt
    obtain ⟨v, h1, h2, h3, h4, h5⟩ := hM.ex
    have hlt2 := hM.lt
    have k1 := ((alloc_below W (.cells #[.int .i64 x.lo, .int .i64 x.mid, .int .i64 x.hi, .bool x.first] 81)).cell (p := ⟨w.heap.size, 0, none⟩) hlt2).trans h1
    have k2 := ((alloc_below W (.cells #[.int .i64 x.lo, .int .i64 x.mid, .int .i64 x.hi, .bool x.first] 81)).frozen (p := ⟨w.heap.size, 0, none⟩) hlt2).trans h2
    have hN2 : pre.length < 100000 := by omega
    gi_wp2_with (gi_at_builtin; refine wpListIn_append_blk rfl _ _ 88 88 rfl w.heap.size 81 i0 _ 4 32 Tryd.underlying88 hi0 hz hs4 hs32 rfl v pre.length (cellsV pre) rfl (h3.alloc (.cells #[.int .i64 x.lo, .int .i64 x.mid, .int .i64 x.hi, .bool x.first] 81)) _ 1 x.cells rfl (src_lev x (rangeAt_new W _ _)) (by unfold maxLen; omega) (by omega) (by simp; omega) ?_; intro v' w1 hown' hgrow _ hblk; obtain ⟨ax, cx, hvx, _, _⟩ := hown'.shape; subst hvx; obtain ⟨⟨q1, q2⟩, qk, qp, qm, qb⟩ := mine_push (by decide) k1 k2 (h3.alloc (.cells #[.int .i64 x.lo, .int .i64 x.mid, .int .i64 x.hi, .bool x.first] 81)) h4 h5 hown' hgrow hblk)
    exact ⟨((KeepsOthers.alloc _ _).trans qk).from _, (KpR.below (alloc_below W (.cells #[.int .i64 x.lo, .int .i64 x.mid, .int .i64 x.hi, .bool x.first] 81)) hlt2).trans qp, by rw [List.length_append, cellsV_snoc]; exact qm, qb _ _ (hB.trans ((alloc_below W _).mono hB.size)) (Nat.le_refl _)⟩
  case done =>
    rintro D ys W hD rfl ⟨hM, hB⟩ hK
    obtain ⟨v, h1, h2, h3, h4, h5⟩ := hM.ex
    gi_wp2
    refine ⟨by simp, .inl ⟨_, _, rfl, run_takeDeferred hK, ?_⟩⟩
    refine ⟨_, results_tmp rfl _ _ _, v, rfl, ?_, hB.trans (belowK_b (w := w) (Nat.le_refl _) W D _ _ (by omega) hK rfl rfl)⟩
    have hg := grownBy_putObj' W D (.deferred none)
    exact h3.keep hg.size fun g hgb => hg.block g (h3.lt g hgb).2 fun e => by
      cases e
      have := own_cells (by decide) h3 h4 _ _ hgb hK
      cases this
  case stop =>
    rintro D c pre W _ _ h _
    exact h.elim
set_option maxHeartbeats 1000000 in
theorem Collect_any (Bn Bi i N : Nat) (w : World) (hN : N ≤ 100000) (hBn : w.cell? ⟨Bn, 0, none⟩ = some (.int .i64 N)) (hBi : w.cell? ⟨Bi, 0, none⟩ = some (.int .i64 i)) (hn : Bn < w.heap.size) (hi : Bi < w.heap.size) :
    Calls Tryd.prog 61 #[.func (.func 86) #[] #[.pointer (some ⟨Bn, 0, none⟩), .pointer (some ⟨Bi, 0, none⟩)]] w fun e W' => ∃ v, e = .returned v ∧ Own W' w.heap.size 4 v (lvls i 0 N).length (cellsV (lvls i 0 N)) ∧ Below w.heap.size w W' := by
  have HA := Lib.hid (AppendSeq_any Bn Bi i N w hN hBn hBi hn hi)
  go_enter Tryd.func61, Tryd.ntmps61
  go_wp2_with fail
  refine HA.out.mono ?_
  rintro e w1 ⟨v, rfl, h⟩
  go_wp2_with fail
  go_ret
  exact ⟨v, rfl, h⟩
end Go.Proofs.YtpdbcahiipbhnaaDoor
