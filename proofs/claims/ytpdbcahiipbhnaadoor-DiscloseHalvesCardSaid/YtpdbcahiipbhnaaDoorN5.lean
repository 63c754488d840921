/- Layer 34: disclose.Prove. -/
import Derived.RangeFuncNested
import Derived.RangeFuncBound
import Derived.RangeFuncCalls
import Derived.RangeFuncLeaves
import Derived.Shelf.Abstract
import Derived.Shelf.RegionOpen
import Derived.WalkKit
import Derived.OwnWalkIn
import Derived.TacticsInMore
import Derived.LoopNIn
import Derived.LoopIn
import Derived.Test.YtpdbcahiipbhnaaDoorN4
import Derived.Test.YtpdbcahiipbhnaaDoorN6
namespace Go.Proofs.YtpdbcahiipbhnaaDoor
open Go.RowKit Go.Shelf
attribute [local go_sem] Oper.semAt_some

theorem Root_sub (l : List ByteArray) (lb lo c a n : Nat) (w : World) (hl : l.length ≤ 1000) (hs : ∀ s ∈ l, s.size ≤ 100000) (h1 : 1 ≤ n) (hle : a + n ≤ l.length) (hat : StrsAt w (some ⟨lb, lo, none⟩) lb lo l) (ht : Tabs w) :
    Calls Tryd.prog 24 #[.slice (some ⟨lb, lo + a, none⟩) n c] w fun e w' => e = .returned (.string (rootR nodB (leafAt l) a n)) ∧ Below w.heap.size w w' := by
  have hlen : ((l.drop a).take n).length = n := by rw [List.length_take, List.length_drop]; omega
  have hget : ∀ i, i < n → ((l.drop a).take n)[i]? = l[a + i]? := fun i hi => by rw [List.getElem?_take, if_pos hi, List.getElem?_drop]
  have hsub : StrsAt w (some ⟨lb, lo + a, none⟩) lb (lo + a) ((l.drop a).take n) := ⟨fun _ => ⟨rfl, (hat.ao (by omega)).2⟩, fun i s hi => by
    have hin : i < n := by have := (List.getElem?_eq_some_iff.1 hi).1; omega
    rw [hget i hin] at hi
    have := hat.at_ (a + i) s hi
    rw [← Nat.add_assoc] at this; exact this⟩
  have := Root_any ((l.drop a).take n) (some ⟨lb, lo + a, none⟩) lb (lo + a) c w (by omega) (fun s h => hs s (List.mem_of_mem_drop (List.mem_of_mem_take h))) hsub ht
  rw [rootB_pos (by omega), hlen] at this
  have e : rootR nodB (leafAt ((l.drop a).take n)) 0 n = rootR nodB (leafAt l) a n := by
    have h2 := rootR_congr nodB (leafAt ((l.drop a).take n)) (fun i => leafAt l (a + i)) n 0 (fun i _ hi => by
      have hin : i < n := by omega
      simp only [leafAt, List.getD_eq_getElem?_getD, hget i hin]) h1
    rw [h2, rootR_shift, Nat.add_zero]
  rw [e] at this
  exact this
theorem below_keeps {W W' : World} (h : Below W.heap.size W W') : KeepsOthers W W' := ⟨h.size, fun k _ hk _ => (h.block k (Array.getElem?_eq_some_iff.1 hk).1).trans hk⟩
/-- Append, in a region that draws its order, in a round. -/
theorem stepIn_append_blk {F : Fence} {k : Nat} {P : Program} {w : World} {ops : Array Oper} {o : Oper} {a : Act} {K : Act → World → Prop} {Q : Exit → Act → World → Prop} {E : Prop} (hgd : o.guard = none) (s x : Operand) (t tx : TypeId)
    (ho : o.op = .call { callee := .builtin .append, args := #[s, x], argTypes := #[t, tx] })
    (B : Nat) (e : TypeId) (i : TypeInfo) (z : Value) (size bytes : Nat) (ht : P.underlying t = some (.slice e)) (hi : P.info? e = some i) (hz : i.zero = some z)
    (hsize : i.size = size) (hby : i.bytes = bytes) (hzs : z.cells.size = size)
    (v : Value) (n : Nat) (xs : List Value) (hs : a.eval s = v) (hown : Own w B size v n xs) (xv : Value) (m : Nat) (news : List Value) (hx : a.eval x = xv) (hsrc : Src P size tx xv m news w)
    (h63 : n + m ≤ maxLen) (hbytes : (n + m) * bytes ≤ 140737488355328) (hbase : B ≤ w.heap.size)
    (h : ∀ v' w', Own w' B size v' (n + m) (xs ++ news) → w.grownBy w' v.ownBlock → (n + m ≠ 0 → v' ≠ .slice none 0 0) → (∀ r, v'.ownBlock = some r → v.ownBlock = some r ∨ (w.heap.size ≤ r ∧ r < w'.heap.size)) → K (a.put o.dst v') w') :
    if Region.wanted o (yielded ops a.tmps) = true then Oper.wpIn F k P o a w K Q else E := by
  rw [if_pos (by simp [Region.wanted, hgd])]
  obtain ⟨v', w', hr, h2, h3, h4⟩ := run_append_Own (P := P) B t tx o.type e i z size bytes ht hi hz hsize hby hzs v n xs hown xv m news hsrc h63 hbytes hbase
  obtain ⟨v2, w2, hr2, h5⟩ := run_append_blk (P := P) B t tx o.type e i z size bytes ht hi hz hsize hby hzs v n xs hown xv m news hsrc h63 hbytes
  rw [hr] at hr2
  cases hr2
  unfold Oper.wpIn
  refine ⟨?_, ?_⟩
  · simp [Oper.about, ho, resolve, Target.leads, Sem.run_pure]
  · rw [Oper.semAt_plain F _ _ (by rw [ho]; intro c hc'; cases hc')]
    simp [execOp, ho, resolve, invoke, builtin, hs, hx, hr, Result.andThen]
    exact h v' w' h2 h3 h4 h5
theorem infoStr : (Tryd.prog.info? 9).map (fun i => (i.zero, i.size, i.bytes)) = some (some (.string ⟨#[]⟩), 1, 16) := by kernel_rfl
theorem src_str {w : World} {g : Nat} (s : ByteArray) (h : w.cell? ⟨g, 0, none⟩ = some (.string s)) : Src Tryd.prog 1 22 (.slice (some ⟨g, 0, none⟩) 1 1) 1 [.string s] w :=
  Src.ofSlice w Tryd.underlying22 ⟨g, 0, none⟩ 1 1 [.string s] rfl (fun j u hj => by
    rw [Addr.add_mid]
    rcases j with _ | j
    · cases hj; exact h
    · simp at hj) (fun u hu => by
    rw [List.mem_singleton.1 hu]; rfl)
set_option maxHeartbeats 4000000 in
set_option maxRecDepth 100000 in
theorem Prove_ok (l : List ByteArray) (lb lo c : Nat) (i : Nat) (w : World) (hl : l.length ≤ 1000) (hs : ∀ s ∈ l, s.size ≤ 100000) (hi : i < l.length) (hc : l.length ≤ c) (hat : StrsAt w (some ⟨lb, lo, none⟩) lb lo l) (ht : Tabs w) :
    Calls Tryd.prog 20 #[.slice (some ⟨lb, lo, none⟩) l.length c, .int .i64 i] w fun e W' => ∃ v, e = .returned (.tuple #[v, .int .i64 0]) ∧ Own W' w.heap.size 1 v (pathL nodB (leafAt l) i l.length).length ((pathL nodB (leafAt l) i l.length).map Value.string) ∧ Below w.heap.size w W' := by
  refine (callsIn_wide (n := 6)).1 ?_
  refine callsIn_of_wp_marks Tryd.func20 rfl trivial ?_ rfl
  simp only [Tryd.ntmps20, List.size_toArray, List.length_cons, List.length_nil, Nat.reduceAdd, Nat.reduceSub, Array.replicate_succ, Array.replicate_zero, List.push_toArray, List.append_toArray, List.nil_append, List.cons_append]
  have i1 : ¬ (i : Int) < 0 := by omega
  have i2 : ¬ (l.length : Int) ≤ (i : Int) := by omega
  have i3 : (i : Int) < (l.length : Int) := by omega
  gi_wp2_with (refine ⟨trivial, ?_⟩; gi_at_call 51; refine (callsIn_wide.2 (levels_any i l.length _)).mono ?_; rintro e w' ⟨rfl, rfl⟩)
  have z1 : (w.alloc (.cells #[.slice (some ⟨lb, lo, none⟩) l.length c] 22)).heap.size = w.heap.size + 1 := by simp
  have z2 : ((w.alloc (.cells #[.slice (some ⟨lb, lo, none⟩) l.length c] 22)).alloc (.cells #[.slice none 0 0] 22)).heap.size = w.heap.size + 2 := by simp
  have z3 : (((w.alloc (.cells #[.slice (some ⟨lb, lo, none⟩) l.length c] 22)).alloc (.cells #[.slice none 0 0] 22)).alloc (.cells #[.int .i64 i] 3)).heap.size = w.heap.size + 3 := by simp
  have z4 : ((((w.alloc (.cells #[.slice (some ⟨lb, lo, none⟩) l.length c] 22)).alloc (.cells #[.slice none 0 0] 22)).alloc (.cells #[.int .i64 i] 3)).alloc (.cells #[.int .i64 l.length] 3)).heap.size = w.heap.size + 4 := by simp
  have n1 : ((((w.alloc (.cells #[.slice (some ⟨lb, lo, none⟩) l.length c] 22)).alloc (.cells #[.slice none 0 0] 22)).alloc (.cells #[.int .i64 i] 3)).alloc (.cells #[.int .i64 l.length] 3)).cell? ⟨w.heap.size, 0, none⟩ = some (.slice (some ⟨lb, lo, none⟩) l.length c) := ((alloc_below _ _).cell (p := ⟨w.heap.size, 0, none⟩) (by show w.heap.size < _; omega)).trans (((alloc_below _ _).cell (p := ⟨w.heap.size, 0, none⟩) (by show w.heap.size < _; omega)).trans (((alloc_below _ _).cell (p := ⟨w.heap.size, 0, none⟩) (by show w.heap.size < _; omega)).trans (new0 rfl rfl)))
  have n2 : ((((w.alloc (.cells #[.slice (some ⟨lb, lo, none⟩) l.length c] 22)).alloc (.cells #[.slice none 0 0] 22)).alloc (.cells #[.int .i64 i] 3)).alloc (.cells #[.int .i64 l.length] 3)).cell? ⟨w.heap.size + 1, 0, none⟩ = some (.slice none 0 0) := ((alloc_below _ _).cell (p := ⟨w.heap.size + 1, 0, none⟩) (by show w.heap.size + 1 < _; omega)).trans (((alloc_below _ _).cell (p := ⟨w.heap.size + 1, 0, none⟩) (by show w.heap.size + 1 < _; omega)).trans (new0 z1.symm rfl))
  have f2 : ((((w.alloc (.cells #[.slice (some ⟨lb, lo, none⟩) l.length c] 22)).alloc (.cells #[.slice none 0 0] 22)).alloc (.cells #[.int .i64 i] 3)).alloc (.cells #[.int .i64 l.length] 3)).frozen? ⟨w.heap.size + 1, 0, none⟩ = false := ((alloc_below _ _).frozen (p := ⟨w.heap.size + 1, 0, none⟩) (by show w.heap.size + 1 < _; omega)).trans (((alloc_below _ _).frozen (p := ⟨w.heap.size + 1, 0, none⟩) (by show w.heap.size + 1 < _; omega)).trans (by
    have := (there_new (w.alloc (.cells #[.slice (some ⟨lb, lo, none⟩) l.length c] 22)) #[.slice none 0 0] 22 1 (by simp) 0 (by omega)).2
    rw [z1] at this; exact this))
  have n3 : ((((w.alloc (.cells #[.slice (some ⟨lb, lo, none⟩) l.length c] 22)).alloc (.cells #[.slice none 0 0] 22)).alloc (.cells #[.int .i64 i] 3)).alloc (.cells #[.int .i64 l.length] 3)).cell? ⟨w.heap.size + 2, 0, none⟩ = some (.int .i64 i) := ((alloc_below _ _).cell (p := ⟨w.heap.size + 2, 0, none⟩) (by show w.heap.size + 2 < _; omega)).trans (new0 z2.symm rfl)
  have n4 : ((((w.alloc (.cells #[.slice (some ⟨lb, lo, none⟩) l.length c] 22)).alloc (.cells #[.slice none 0 0] 22)).alloc (.cells #[.int .i64 i] 3)).alloc (.cells #[.int .i64 l.length] 3)).cell? ⟨w.heap.size + 3, 0, none⟩ = some (.int .i64 l.length) := new0 z3.symm rfl
  have hb0 : Below w.heap.size w ((((w.alloc (.cells #[.slice (some ⟨lb, lo, none⟩) l.length c] 22)).alloc (.cells #[.slice none 0 0] 22)).alloc (.cells #[.int .i64 i] 3)).alloc (.cells #[.int .i64 l.length] 3)) := ((((Below.refl w.heap.size w).alloc (Nat.le_refl _) _).alloc (by omega) _).alloc (by omega) _).alloc (by omega) _
  clear z1 z2 z3
  generalize ((((w.alloc (.cells #[.slice (some ⟨lb, lo, none⟩) l.length c] 22)).alloc (.cells #[.slice none 0 0] 22)).alloc (.cells #[.int .i64 i] 3)).alloc (.cells #[.int .i64 l.length] 3)) = W0 at *
  have hM0 : Mine (w.heap.size + 1) 1 0 [] W0 := ⟨_, n2, f2, Own.nil _ _ _, fun _ => rfl, fun h => by cases h⟩
  obtain ⟨i0, hi0, hz, hs1, hs16⟩ := info_parts infoStr
  have hI0 : OwnFrom W0.heap.size (fun (pre : List { x : Lev // x ∈ lvls i 0 l.length }) W => Mine (w.heap.size + 1) 1 pre.length (pre.map fun x => Value.string (besideL nodB (leafAt l) x.1)) W ∧ W.cell? ⟨w.heap.size, 0, none⟩ = some (.slice (some ⟨lb, lo, none⟩) l.length c) ∧ Below w.heap.size w W) := fun s A C row ⟨h1, h2, h3⟩ hg hr => ⟨Mine.own (by decide) h1 hg hr, cell_kept h2 hg (fun r e => (hr r e).2), h3.grown hg h3.size (fun k e => Nat.le_trans hb0.size (hr k e).1)⟩
  refine wpIn_rangeFunc_ownH rfl (by omega) (gf := 86) (lb := #[.pointer (some ⟨w.heap.size + 1 + 1 + 1, 0, none⟩), .pointer (some ⟨w.heap.size + 1 + 1, 0, none⟩)]) rfl trivial (enters_of Tryd.func86 (by kernel_rfl) rfl)
    (lev_stopsM 5 (by omega) (w.heap.size + 1 + 1 + 1) (w.heap.size + 1 + 1) (w.heap.size + 1) i l.length (by omega) W0 n4 n3 (by omega) (by omega) (by omega) (by omega) (by unfold rowOf; rw [n2]; rfl))
    KpR.trans (fun W l o o' h1 h2 h3 _ => KpR.put h2 h3 (by omega)) (Below.refl _ _) (fun _ => rfl)
    (fun (pre : List { x : Lev // x ∈ lvls i 0 l.length }) W => Mine (w.heap.size + 1) 1 pre.length (pre.map fun x => Value.string (besideL nodB (leafAt l) x.1)) W ∧ W.cell? ⟨w.heap.size, 0, none⟩ = some (.slice (some ⟨lb, lo, none⟩) l.length c) ∧ Below w.heap.size w W)
    (fun _ _ _ => False)
    hI0
    (fun _ _ _ _ _ hs _ _ => hs)
    ⟨hM0, n1, hb0⟩
    (fun x a' W => ∃ Bx, w.heap.size + 1 < Bx ∧ (W.cell? ⟨Bx, 0, none⟩ = some (.int .i64 x.1.lo) ∧ W.cell? ⟨Bx, 1, none⟩ = some (.int .i64 x.1.mid) ∧ W.cell? ⟨Bx, 2, none⟩ = some (.int .i64 x.1.hi) ∧ W.cell? ⟨Bx, 3, none⟩ = some (.bool x.1.first)) ∧
      a' = { tmps := #[.slice (some ⟨lb, lo, none⟩) l.length c, .int .i64 i, .pointer (some ⟨w.heap.size, 0, none⟩), undef, .slice none 0 0, .int .i64 0, .pointer (some ⟨w.heap.size + 1, 0, none⟩), .pointer (some ⟨Bx, 0, none⟩), undef, .int .i64 i, .bool false, .bool false, .int .i64 i, .slice (some ⟨lb, lo, none⟩) l.length c, .int .i64 l.length, .bool false, .bool false, .int .i64 i, .slice (some ⟨lb, lo, none⟩) l.length c, .int .i64 l.length, .func (.func 86) #[] #[.pointer (some ⟨w.heap.size + 1 + 1 + 1, 0, none⟩), .pointer (some ⟨w.heap.size + 1 + 1, 0, none⟩)], .agg #[.int .i64 x.1.lo, .int .i64 x.1.mid, .int .i64 x.1.hi, .bool x.1.first], undef, undef, undef, undef, undef, undef, undef, undef, undef, undef, undef, undef, undef, undef, undef, undef, undef, undef, undef, undef, undef, undef], defers := [] })
    (fun x a' s A C row hs hg hr => by
      obtain ⟨Bx, k1, ⟨c0, c1, c2, c3⟩, k3⟩ := hs
      have hr' := fun r e => (hr r e).2
      exact ⟨Bx, k1, ⟨cell_kept c0 hg hr', cell_kept c1 hg hr', cell_kept c2 hg hr', cell_kept c3 hg hr'⟩, k3⟩)
    ?assign ?body ?done ?stop
  case assign =>
    rintro l' pre x W K ⟨hM, hcl, hB⟩ hK
    gi_wp2
    have hlt := hM.lt
    exact hK _ _ ((KeepsOthers.alloc _ _).from _) (KpR.below (alloc_below W _) hM.lt) ⟨Mine.own (base := 0) (by decide) hM (World.grownBy_alloc W _ none) (fun r e => by cases e), ((alloc_below W _).cell (p := ⟨w.heap.size, 0, none⟩) (by show w.heap.size < _; omega)).trans hcl, hB.trans ((alloc_below W _).mono hB.size)⟩ ⟨W.heap.size, hM.lt, ⟨new0 rfl rfl, new0 rfl rfl, new0 rfl rfl, new0 rfl rfl⟩, rfl⟩
  case body =>
    rintro l' pre ⟨x, hx⟩ a' W hl' _ ⟨hM, hcl, hB⟩ ⟨Bx, hBx, ⟨c0, c1, c2, c3⟩, rfl⟩ hlt
    obtain ⟨v, h1, h2, h3, h4, h5⟩ := hM.ex
    have hlt2 := hM.lt
    have hin := lvls_in i l.length 0 x hx
    rw [Nat.zero_add] at hin
    obtain ⟨p1, p2, p3, p4⟩ := hin
    dsimp only at c0 c1 c2 c3
    have hmx : Tryd.prog.follows .mixedOrders = true := by kernel_rfl
    have hT : Tabs W := ht.below hB (Nat.le_refl _)
    have hL : StrsAt W (some ⟨lb, lo, none⟩) lb lo l := hat.step hB
    have hL2 : StrsAt W.drew (some ⟨lb, lo, none⟩) lb lo l := hL.step (drewN_below W 1)
    have hT2 : Tabs W.drew := hT.drew
    rcases hfx : x.first with _ | _
    · rw [hfx] at c3
      have HR := Lib.hid (Root_sub l lb lo (c - x.lo) x.lo (x.mid - x.lo) W.drew hl hs (by omega) (by omega) hL2 hT2)
      have hbs : besideL nodB (leafAt l) x = rootR nodB (leafAt l) x.lo (x.mid - x.lo) := by unfold besideL; rw [hfx]; rfl
      generalize rootR nodB (leafAt l) x.lo (x.mid - x.lo) = r at *
      have HD1 : Hid (v.ownBlock ≠ some w.heap.size) := Lib.hid fun e => by have := (h3.lt _ e).1; omega
      have HSZ : Hid (∀ W2, Below W.drew.heap.size W.drew W2 → w.heap.size + 1 ≤ (W2.alloc (.cells #[.string r] 9)).heap.size) := Lib.hid fun W2 hb2 => by
        have := hb2.size
        have e1 : W.drew.heap.size = W.heap.size := rfl
        simp; omega
      have HOW : Hid (∀ W2, Below W.drew.heap.size W.drew W2 → Own (W2.alloc (.cells #[.string r] 9)) (w.heap.size + 1) 1 v pre.length (pre.map fun x => Value.string (besideL nodB (leafAt l) x.1))) := Lib.hid fun W2 hb2 => ((h3.drew).below hb2).alloc _
      have HCC : Hid (∀ W2, Below W.drew.heap.size W.drew W2 → W2.cell? ⟨w.heap.size + 1, 0, none⟩ = some v ∧ (W2.alloc (.cells #[.string r] 9)).cell? ⟨w.heap.size + 1, 0, none⟩ = some v) := Lib.hid fun W2 hb2 => by
        have e1 := (hb2.cell (p := ⟨w.heap.size + 1, 0, none⟩) hlt2).trans h1
        exact ⟨e1, ((alloc_below W2 _).cell (p := ⟨w.heap.size + 1, 0, none⟩) (Nat.lt_of_lt_of_le hlt2 hb2.size)).trans e1⟩
      have FIN : Hid (∀ W2, Below W.drew.heap.size W.drew W2 → ∀ ax cx w1, Own w1 (w.heap.size + 1) 1 (.slice ax (pre.length + 1) cx) (pre.length + 1) ((pre.map fun x => Value.string (besideL nodB (leafAt l) x.1)) ++ [.string r]) → (W2.alloc (.cells #[.string r] 9)).grownBy w1 v.ownBlock → (∀ r', (Value.slice ax (pre.length + 1) cx).ownBlock = some r' → v.ownBlock = some r' ∨ ((W2.alloc (.cells #[.string r] 9)).heap.size ≤ r' ∧ r' < w1.heap.size)) →
          (w1.cell? ⟨w.heap.size + 1, 0, none⟩ = some v ∧ w1.frozen? ⟨w.heap.size + 1, 0, none⟩ = false) ∧ KeepsFrom W0.heap.size W (w1.setCell ⟨w.heap.size + 1, 0, none⟩ (.slice ax (pre.length + 1) cx)) ∧ KpR (w.heap.size + 1) W (w1.setCell ⟨w.heap.size + 1, 0, none⟩ (.slice ax (pre.length + 1) cx)) ∧ (Mine (w.heap.size + 1) 1 (pre ++ [(⟨x, hx⟩ : { x : Lev // x ∈ lvls i 0 l.length })]).length ((pre ++ [(⟨x, hx⟩ : { x : Lev // x ∈ lvls i 0 l.length })]).map fun x => Value.string (besideL nodB (leafAt l) x.1)) (w1.setCell ⟨w.heap.size + 1, 0, none⟩ (.slice ax (pre.length + 1) cx)) ∧ (w1.setCell ⟨w.heap.size + 1, 0, none⟩ (.slice ax (pre.length + 1) cx)).cell? ⟨w.heap.size, 0, none⟩ = some (.slice (some ⟨lb, lo, none⟩) l.length c) ∧ Below w.heap.size w (w1.setCell ⟨w.heap.size + 1, 0, none⟩ (.slice ax (pre.length + 1) cx)))) := Lib.hid fun W2 hb2 ax cx w1 hown' hgrow hblk => by
        have b0 := drewN_below W 1
        have b1 : Below W.heap.size W (W2.alloc (.cells #[.string r] 9)) := (b0.trans (hb2.mono b0.size)).trans ((alloc_below W2 _).mono (Nat.le_trans b0.size hb2.size))
        have hlt3 : w.heap.size < W.heap.size := by omega
        have k1 := (b1.cell (p := ⟨w.heap.size + 1, 0, none⟩) hlt2).trans h1
        have k2 := (b1.frozen (p := ⟨w.heap.size + 1, 0, none⟩) hlt2).trans h2
        have k3 := (b1.cell (p := ⟨w.heap.size, 0, none⟩) hlt3).trans hcl
        obtain ⟨⟨q1, q2⟩, qk, qp, qm, qb⟩ := mine_push (by decide) k1 k2 (h3.below b1) h4 h5 hown' hgrow hblk
        have hrow : rowOf (W2.alloc (.cells #[.string r] 9)) (w.heap.size + 1) = v.ownBlock := by unfold rowOf; rw [k1]; rfl
        refine ⟨⟨q1, q2⟩, ((below_keeps b1).trans qk).from _, (KpR.below b1 hlt2).trans qp, ?_, qp.cell k3 (by omega) (by rw [hrow]; exact HD1.out), qb _ _ (hB.trans (b1.mono hB.size)) (by omega)⟩
        rw [List.length_append, List.map_append, List.map_cons, List.map_nil, hbs]
        exact qm
      have hN2 : pre.length < 1000 := by omega
      gi_wp2
      refine wpIn_region_any (by assumption) ?_
      try (change wpAnyIn _ _ _ _ _ _ _ _ _ (World.drew _))
      refine wpAnyIn_ready (rs := [0, 1]) (by kernel_rfl) (by simp) ?_
      refine AllReadyIn.cons rfl (fun K hK => ?_) ?_
      · go_simp
        refine hK _ _ ?_
        clear hK K
        refine wpAnyIn_ready (rs := [1]) (by kernel_rfl) (by simp) ?_
        refine AllReadyIn.cons rfl (fun K hK => ?_) ?_
        · go_simp
          refine hK _ _ ?_
          clear hK K
          refine wpAnyIn_ready (rs := [2]) (by kernel_rfl) (by simp) ?_
          refine AllReadyIn.cons rfl (fun K hK => ?_) ?_
          · go_simp
            gi_wp2_with (refine ⟨trivial, ?_⟩; gi_at_call 24; refine (CallsIn.inRound l' (callsIn_wide.2 HR.out)).mono ?_; rintro e W2 ⟨rfl, hb2⟩; obtain ⟨kA, kB⟩ := HCC.out W2 hb2)
            refine wpAnyIn_ready (rs := [3]) (by kernel_rfl) (by simp) ?_
            refine AllReadyIn.cons rfl (fun K hK => ?_) ?_
            · go_simp
              refine hK _ _ ?_
              clear hK K
              refine wpAnyIn_ready (rs := [4]) (by kernel_rfl) (by simp) ?_
              refine AllReadyIn.cons rfl (fun K hK => ?_) ?_
              · refine stepIn_append_blk rfl _ _ 22 22 rfl (w.heap.size + 1) 9 i0 _ 1 16 Tryd.underlying22 hi0 hz hs1 hs16 rfl v pre.length _ rfl (HOW.out W2 hb2) _ 1 [.string r] rfl (src_str r (new0 rfl rfl)) (by unfold maxLen; omega) (by omega) (HSZ.out W2 hb2) ?_
                intro v' w1 hown' hgrow _ hblk
                obtain ⟨ax, cx, hvx, _, _⟩ := hown'.shape
                subst hvx
                obtain ⟨⟨q1, q2⟩, q3, q4, q5⟩ := FIN.out W2 hb2 ax cx w1 hown' hgrow hblk
                refine hK _ _ ?_
                clear hK K
                refine wpAnyIn_ready (rs := [5]) (by kernel_rfl) (by simp) ?_
                refine AllReadyIn.cons rfl (fun K hK => ?_) ?_
                · go_simp
                  refine hK _ _ ?_
                  clear hK K
                  refine wpAnyIn_done (by kernel_rfl) ?_ _
                  exact ⟨q3, q4, q5⟩
                exact AllReadyIn.nil
              exact AllReadyIn.nil
            exact AllReadyIn.nil
          exact AllReadyIn.nil
        exact AllReadyIn.nil
      refine AllReadyIn.cons rfl (fun K hK => ?_) ?_
      · go_simp
        refine hK _ _ ?_
        clear hK K
        refine wpAnyIn_ready (rs := [0, 2]) (by kernel_rfl) (by simp) ?_
        refine AllReadyIn.cons rfl (fun K hK => ?_) ?_
        · go_simp
          refine hK _ _ ?_
          clear hK K
          refine wpAnyIn_ready (rs := [2]) (by kernel_rfl) (by simp) ?_
          refine AllReadyIn.cons rfl (fun K hK => ?_) ?_
          · go_simp
            gi_wp2_with (refine ⟨trivial, ?_⟩; gi_at_call 24; refine (CallsIn.inRound l' (callsIn_wide.2 HR.out)).mono ?_; rintro e W2 ⟨rfl, hb2⟩; obtain ⟨kA, kB⟩ := HCC.out W2 hb2)
            refine wpAnyIn_ready (rs := [3]) (by kernel_rfl) (by simp) ?_
            refine AllReadyIn.cons rfl (fun K hK => ?_) ?_
            · go_simp
              refine hK _ _ ?_
              clear hK K
              refine wpAnyIn_ready (rs := [4]) (by kernel_rfl) (by simp) ?_
              refine AllReadyIn.cons rfl (fun K hK => ?_) ?_
              · refine stepIn_append_blk rfl _ _ 22 22 rfl (w.heap.size + 1) 9 i0 _ 1 16 Tryd.underlying22 hi0 hz hs1 hs16 rfl v pre.length _ rfl (HOW.out W2 hb2) _ 1 [.string r] rfl (src_str r (new0 rfl rfl)) (by unfold maxLen; omega) (by omega) (HSZ.out W2 hb2) ?_
                intro v' w1 hown' hgrow _ hblk
                obtain ⟨ax, cx, hvx, _, _⟩ := hown'.shape
                subst hvx
                obtain ⟨⟨q1, q2⟩, q3, q4, q5⟩ := FIN.out W2 hb2 ax cx w1 hown' hgrow hblk
                refine hK _ _ ?_
                clear hK K
                refine wpAnyIn_ready (rs := [5]) (by kernel_rfl) (by simp) ?_
                refine AllReadyIn.cons rfl (fun K hK => ?_) ?_
                · go_simp
                  refine hK _ _ ?_
                  clear hK K
                  refine wpAnyIn_done (by kernel_rfl) ?_ _
                  exact ⟨q3, q4, q5⟩
                exact AllReadyIn.nil
              exact AllReadyIn.nil
            exact AllReadyIn.nil
          exact AllReadyIn.nil
        refine AllReadyIn.cons rfl (fun K hK => ?_) ?_
        · go_simp
          gi_wp2_with (refine ⟨trivial, ?_⟩; gi_at_call 24; refine (CallsIn.inRound l' (callsIn_wide.2 HR.out)).mono ?_; rintro e W2 ⟨rfl, hb2⟩; obtain ⟨kA, kB⟩ := HCC.out W2 hb2)
          refine wpAnyIn_ready (rs := [0, 3]) (by kernel_rfl) (by simp) ?_
          refine AllReadyIn.cons rfl (fun K hK => ?_) ?_
          · go_simp
            refine hK _ _ ?_
            clear hK K
            refine wpAnyIn_ready (rs := [3]) (by kernel_rfl) (by simp) ?_
            refine AllReadyIn.cons rfl (fun K hK => ?_) ?_
            · go_simp
              refine hK _ _ ?_
              clear hK K
              refine wpAnyIn_ready (rs := [4]) (by kernel_rfl) (by simp) ?_
              refine AllReadyIn.cons rfl (fun K hK => ?_) ?_
              · refine stepIn_append_blk rfl _ _ 22 22 rfl (w.heap.size + 1) 9 i0 _ 1 16 Tryd.underlying22 hi0 hz hs1 hs16 rfl v pre.length _ rfl (HOW.out W2 hb2) _ 1 [.string r] rfl (src_str r (new0 rfl rfl)) (by unfold maxLen; omega) (by omega) (HSZ.out W2 hb2) ?_
                intro v' w1 hown' hgrow _ hblk
                obtain ⟨ax, cx, hvx, _, _⟩ := hown'.shape
                subst hvx
                obtain ⟨⟨q1, q2⟩, q3, q4, q5⟩ := FIN.out W2 hb2 ax cx w1 hown' hgrow hblk
                refine hK _ _ ?_
                clear hK K
                refine wpAnyIn_ready (rs := [5]) (by kernel_rfl) (by simp) ?_
                refine AllReadyIn.cons rfl (fun K hK => ?_) ?_
                · go_simp
                  refine hK _ _ ?_
                  clear hK K
                  refine wpAnyIn_done (by kernel_rfl) ?_ _
                  exact ⟨q3, q4, q5⟩
                exact AllReadyIn.nil
              exact AllReadyIn.nil
            exact AllReadyIn.nil
          refine AllReadyIn.cons rfl (fun K hK => ?_) ?_
          · go_simp
            refine hK _ _ ?_
            clear hK K
            refine wpAnyIn_ready (rs := [0]) (by kernel_rfl) (by simp) ?_
            refine AllReadyIn.cons rfl (fun K hK => ?_) ?_
            · go_simp
              refine hK _ _ ?_
              clear hK K
              refine wpAnyIn_ready (rs := [4]) (by kernel_rfl) (by simp) ?_
              refine AllReadyIn.cons rfl (fun K hK => ?_) ?_
              · refine stepIn_append_blk rfl _ _ 22 22 rfl (w.heap.size + 1) 9 i0 _ 1 16 Tryd.underlying22 hi0 hz hs1 hs16 rfl v pre.length _ rfl (HOW.out W2 hb2) _ 1 [.string r] rfl (src_str r (new0 rfl rfl)) (by unfold maxLen; omega) (by omega) (HSZ.out W2 hb2) ?_
                intro v' w1 hown' hgrow _ hblk
                obtain ⟨ax, cx, hvx, _, _⟩ := hown'.shape
                subst hvx
                obtain ⟨⟨q1, q2⟩, q3, q4, q5⟩ := FIN.out W2 hb2 ax cx w1 hown' hgrow hblk
                refine hK _ _ ?_
                clear hK K
                refine wpAnyIn_ready (rs := [5]) (by kernel_rfl) (by simp) ?_
                refine AllReadyIn.cons rfl (fun K hK => ?_) ?_
                · go_simp
                  refine hK _ _ ?_
                  clear hK K
                  refine wpAnyIn_done (by kernel_rfl) ?_ _
                  exact ⟨q3, q4, q5⟩
                exact AllReadyIn.nil
              exact AllReadyIn.nil
            exact AllReadyIn.nil
          exact AllReadyIn.nil
        exact AllReadyIn.nil
      exact AllReadyIn.nil
    · rw [hfx] at c3
      have HR := Lib.hid (Root_sub l lb lo (c - x.mid) x.mid (x.hi - x.mid) W.drew hl hs (by omega) (by omega) hL2 hT2)
      have hbs : besideL nodB (leafAt l) x = rootR nodB (leafAt l) x.mid (x.hi - x.mid) := by unfold besideL; rw [hfx]; rfl
      generalize rootR nodB (leafAt l) x.mid (x.hi - x.mid) = r at *
      have HD1 : Hid (v.ownBlock ≠ some w.heap.size) := Lib.hid fun e => by have := (h3.lt _ e).1; omega
      have HSZ : Hid (∀ W2, Below W.drew.heap.size W.drew W2 → w.heap.size + 1 ≤ (W2.alloc (.cells #[.string r] 9)).heap.size) := Lib.hid fun W2 hb2 => by
        have := hb2.size
        have e1 : W.drew.heap.size = W.heap.size := rfl
        simp; omega
      have HOW : Hid (∀ W2, Below W.drew.heap.size W.drew W2 → Own (W2.alloc (.cells #[.string r] 9)) (w.heap.size + 1) 1 v pre.length (pre.map fun x => Value.string (besideL nodB (leafAt l) x.1))) := Lib.hid fun W2 hb2 => ((h3.drew).below hb2).alloc _
      have HCC : Hid (∀ W2, Below W.drew.heap.size W.drew W2 → W2.cell? ⟨w.heap.size + 1, 0, none⟩ = some v ∧ (W2.alloc (.cells #[.string r] 9)).cell? ⟨w.heap.size + 1, 0, none⟩ = some v) := Lib.hid fun W2 hb2 => by
        have e1 := (hb2.cell (p := ⟨w.heap.size + 1, 0, none⟩) hlt2).trans h1
        exact ⟨e1, ((alloc_below W2 _).cell (p := ⟨w.heap.size + 1, 0, none⟩) (Nat.lt_of_lt_of_le hlt2 hb2.size)).trans e1⟩
      have FIN : Hid (∀ W2, Below W.drew.heap.size W.drew W2 → ∀ ax cx w1, Own w1 (w.heap.size + 1) 1 (.slice ax (pre.length + 1) cx) (pre.length + 1) ((pre.map fun x => Value.string (besideL nodB (leafAt l) x.1)) ++ [.string r]) → (W2.alloc (.cells #[.string r] 9)).grownBy w1 v.ownBlock → (∀ r', (Value.slice ax (pre.length + 1) cx).ownBlock = some r' → v.ownBlock = some r' ∨ ((W2.alloc (.cells #[.string r] 9)).heap.size ≤ r' ∧ r' < w1.heap.size)) →
          (w1.cell? ⟨w.heap.size + 1, 0, none⟩ = some v ∧ w1.frozen? ⟨w.heap.size + 1, 0, none⟩ = false) ∧ KeepsFrom W0.heap.size W (w1.setCell ⟨w.heap.size + 1, 0, none⟩ (.slice ax (pre.length + 1) cx)) ∧ KpR (w.heap.size + 1) W (w1.setCell ⟨w.heap.size + 1, 0, none⟩ (.slice ax (pre.length + 1) cx)) ∧ (Mine (w.heap.size + 1) 1 (pre ++ [(⟨x, hx⟩ : { x : Lev // x ∈ lvls i 0 l.length })]).length ((pre ++ [(⟨x, hx⟩ : { x : Lev // x ∈ lvls i 0 l.length })]).map fun x => Value.string (besideL nodB (leafAt l) x.1)) (w1.setCell ⟨w.heap.size + 1, 0, none⟩ (.slice ax (pre.length + 1) cx)) ∧ (w1.setCell ⟨w.heap.size + 1, 0, none⟩ (.slice ax (pre.length + 1) cx)).cell? ⟨w.heap.size, 0, none⟩ = some (.slice (some ⟨lb, lo, none⟩) l.length c) ∧ Below w.heap.size w (w1.setCell ⟨w.heap.size + 1, 0, none⟩ (.slice ax (pre.length + 1) cx)))) := Lib.hid fun W2 hb2 ax cx w1 hown' hgrow hblk => by
        have b0 := drewN_below W 1
        have b1 : Below W.heap.size W (W2.alloc (.cells #[.string r] 9)) := (b0.trans (hb2.mono b0.size)).trans ((alloc_below W2 _).mono (Nat.le_trans b0.size hb2.size))
        have hlt3 : w.heap.size < W.heap.size := by omega
        have k1 := (b1.cell (p := ⟨w.heap.size + 1, 0, none⟩) hlt2).trans h1
        have k2 := (b1.frozen (p := ⟨w.heap.size + 1, 0, none⟩) hlt2).trans h2
        have k3 := (b1.cell (p := ⟨w.heap.size, 0, none⟩) hlt3).trans hcl
        obtain ⟨⟨q1, q2⟩, qk, qp, qm, qb⟩ := mine_push (by decide) k1 k2 (h3.below b1) h4 h5 hown' hgrow hblk
        have hrow : rowOf (W2.alloc (.cells #[.string r] 9)) (w.heap.size + 1) = v.ownBlock := by unfold rowOf; rw [k1]; rfl
        refine ⟨⟨q1, q2⟩, ((below_keeps b1).trans qk).from _, (KpR.below b1 hlt2).trans qp, ?_, qp.cell k3 (by omega) (by rw [hrow]; exact HD1.out), qb _ _ (hB.trans (b1.mono hB.size)) (by omega)⟩
        rw [List.length_append, List.map_append, List.map_cons, List.map_nil, hbs]
        exact qm
      have hN2 : pre.length < 1000 := by omega
      gi_wp2
      refine wpIn_region_any (by assumption) ?_
      try (change wpAnyIn _ _ _ _ _ _ _ _ _ (World.drew _))
      refine wpAnyIn_ready (rs := [0, 1]) (by kernel_rfl) (by simp) ?_
      refine AllReadyIn.cons rfl (fun K hK => ?_) ?_
      · go_simp
        refine hK _ _ ?_
        clear hK K
        refine wpAnyIn_ready (rs := [1]) (by kernel_rfl) (by simp) ?_
        refine AllReadyIn.cons rfl (fun K hK => ?_) ?_
        · go_simp
          refine hK _ _ ?_
          clear hK K
          refine wpAnyIn_ready (rs := [2]) (by kernel_rfl) (by simp) ?_
          refine AllReadyIn.cons rfl (fun K hK => ?_) ?_
          · go_simp
            gi_wp2_with (refine ⟨trivial, ?_⟩; gi_at_call 24; refine (CallsIn.inRound l' (callsIn_wide.2 HR.out)).mono ?_; rintro e W2 ⟨rfl, hb2⟩; obtain ⟨kA, kB⟩ := HCC.out W2 hb2)
            refine wpAnyIn_ready (rs := [3]) (by kernel_rfl) (by simp) ?_
            refine AllReadyIn.cons rfl (fun K hK => ?_) ?_
            · go_simp
              refine hK _ _ ?_
              clear hK K
              refine wpAnyIn_ready (rs := [4]) (by kernel_rfl) (by simp) ?_
              refine AllReadyIn.cons rfl (fun K hK => ?_) ?_
              · refine stepIn_append_blk rfl _ _ 22 22 rfl (w.heap.size + 1) 9 i0 _ 1 16 Tryd.underlying22 hi0 hz hs1 hs16 rfl v pre.length _ rfl (HOW.out W2 hb2) _ 1 [.string r] rfl (src_str r (new0 rfl rfl)) (by unfold maxLen; omega) (by omega) (HSZ.out W2 hb2) ?_
                intro v' w1 hown' hgrow _ hblk
                obtain ⟨ax, cx, hvx, _, _⟩ := hown'.shape
                subst hvx
                obtain ⟨⟨q1, q2⟩, q3, q4, q5⟩ := FIN.out W2 hb2 ax cx w1 hown' hgrow hblk
                refine hK _ _ ?_
                clear hK K
                refine wpAnyIn_ready (rs := [5]) (by kernel_rfl) (by simp) ?_
                refine AllReadyIn.cons rfl (fun K hK => ?_) ?_
                · go_simp
                  refine hK _ _ ?_
                  clear hK K
                  refine wpAnyIn_done (by kernel_rfl) ?_ _
                  exact ⟨q3, q4, q5⟩
                exact AllReadyIn.nil
              exact AllReadyIn.nil
            exact AllReadyIn.nil
          exact AllReadyIn.nil
        exact AllReadyIn.nil
      refine AllReadyIn.cons rfl (fun K hK => ?_) ?_
      · go_simp
        refine hK _ _ ?_
        clear hK K
        refine wpAnyIn_ready (rs := [0, 2]) (by kernel_rfl) (by simp) ?_
        refine AllReadyIn.cons rfl (fun K hK => ?_) ?_
        · go_simp
          refine hK _ _ ?_
          clear hK K
          refine wpAnyIn_ready (rs := [2]) (by kernel_rfl) (by simp) ?_
          refine AllReadyIn.cons rfl (fun K hK => ?_) ?_
          · go_simp
            gi_wp2_with (refine ⟨trivial, ?_⟩; gi_at_call 24; refine (CallsIn.inRound l' (callsIn_wide.2 HR.out)).mono ?_; rintro e W2 ⟨rfl, hb2⟩; obtain ⟨kA, kB⟩ := HCC.out W2 hb2)
            refine wpAnyIn_ready (rs := [3]) (by kernel_rfl) (by simp) ?_
            refine AllReadyIn.cons rfl (fun K hK => ?_) ?_
            · go_simp
              refine hK _ _ ?_
              clear hK K
              refine wpAnyIn_ready (rs := [4]) (by kernel_rfl) (by simp) ?_
              refine AllReadyIn.cons rfl (fun K hK => ?_) ?_
              · refine stepIn_append_blk rfl _ _ 22 22 rfl (w.heap.size + 1) 9 i0 _ 1 16 Tryd.underlying22 hi0 hz hs1 hs16 rfl v pre.length _ rfl (HOW.out W2 hb2) _ 1 [.string r] rfl (src_str r (new0 rfl rfl)) (by unfold maxLen; omega) (by omega) (HSZ.out W2 hb2) ?_
                intro v' w1 hown' hgrow _ hblk
                obtain ⟨ax, cx, hvx, _, _⟩ := hown'.shape
                subst hvx
                obtain ⟨⟨q1, q2⟩, q3, q4, q5⟩ := FIN.out W2 hb2 ax cx w1 hown' hgrow hblk
                refine hK _ _ ?_
                clear hK K
                refine wpAnyIn_ready (rs := [5]) (by kernel_rfl) (by simp) ?_
                refine AllReadyIn.cons rfl (fun K hK => ?_) ?_
                · go_simp
                  refine hK _ _ ?_
                  clear hK K
                  refine wpAnyIn_done (by kernel_rfl) ?_ _
                  exact ⟨q3, q4, q5⟩
                exact AllReadyIn.nil
              exact AllReadyIn.nil
            exact AllReadyIn.nil
          exact AllReadyIn.nil
        refine AllReadyIn.cons rfl (fun K hK => ?_) ?_
        · go_simp
          gi_wp2_with (refine ⟨trivial, ?_⟩; gi_at_call 24; refine (CallsIn.inRound l' (callsIn_wide.2 HR.out)).mono ?_; rintro e W2 ⟨rfl, hb2⟩; obtain ⟨kA, kB⟩ := HCC.out W2 hb2)
          refine wpAnyIn_ready (rs := [0, 3]) (by kernel_rfl) (by simp) ?_
          refine AllReadyIn.cons rfl (fun K hK => ?_) ?_
          · go_simp
            refine hK _ _ ?_
            clear hK K
            refine wpAnyIn_ready (rs := [3]) (by kernel_rfl) (by simp) ?_
            refine AllReadyIn.cons rfl (fun K hK => ?_) ?_
            · go_simp
              refine hK _ _ ?_
              clear hK K
              refine wpAnyIn_ready (rs := [4]) (by kernel_rfl) (by simp) ?_
              refine AllReadyIn.cons rfl (fun K hK => ?_) ?_
              · refine stepIn_append_blk rfl _ _ 22 22 rfl (w.heap.size + 1) 9 i0 _ 1 16 Tryd.underlying22 hi0 hz hs1 hs16 rfl v pre.length _ rfl (HOW.out W2 hb2) _ 1 [.string r] rfl (src_str r (new0 rfl rfl)) (by unfold maxLen; omega) (by omega) (HSZ.out W2 hb2) ?_
                intro v' w1 hown' hgrow _ hblk
                obtain ⟨ax, cx, hvx, _, _⟩ := hown'.shape
                subst hvx
                obtain ⟨⟨q1, q2⟩, q3, q4, q5⟩ := FIN.out W2 hb2 ax cx w1 hown' hgrow hblk
                refine hK _ _ ?_
                clear hK K
                refine wpAnyIn_ready (rs := [5]) (by kernel_rfl) (by simp) ?_
                refine AllReadyIn.cons rfl (fun K hK => ?_) ?_
                · go_simp
                  refine hK _ _ ?_
                  clear hK K
                  refine wpAnyIn_done (by kernel_rfl) ?_ _
                  exact ⟨q3, q4, q5⟩
                exact AllReadyIn.nil
              exact AllReadyIn.nil
            exact AllReadyIn.nil
          refine AllReadyIn.cons rfl (fun K hK => ?_) ?_
          · go_simp
            refine hK _ _ ?_
            clear hK K
            refine wpAnyIn_ready (rs := [0]) (by kernel_rfl) (by simp) ?_
            refine AllReadyIn.cons rfl (fun K hK => ?_) ?_
            · go_simp
              refine hK _ _ ?_
              clear hK K
              refine wpAnyIn_ready (rs := [4]) (by kernel_rfl) (by simp) ?_
              refine AllReadyIn.cons rfl (fun K hK => ?_) ?_
              · refine stepIn_append_blk rfl _ _ 22 22 rfl (w.heap.size + 1) 9 i0 _ 1 16 Tryd.underlying22 hi0 hz hs1 hs16 rfl v pre.length _ rfl (HOW.out W2 hb2) _ 1 [.string r] rfl (src_str r (new0 rfl rfl)) (by unfold maxLen; omega) (by omega) (HSZ.out W2 hb2) ?_
                intro v' w1 hown' hgrow _ hblk
                obtain ⟨ax, cx, hvx, _, _⟩ := hown'.shape
                subst hvx
                obtain ⟨⟨q1, q2⟩, q3, q4, q5⟩ := FIN.out W2 hb2 ax cx w1 hown' hgrow hblk
                refine hK _ _ ?_
                clear hK K
                refine wpAnyIn_ready (rs := [5]) (by kernel_rfl) (by simp) ?_
                refine AllReadyIn.cons rfl (fun K hK => ?_) ?_
                · go_simp
                  refine hK _ _ ?_
                  clear hK K
                  refine wpAnyIn_done (by kernel_rfl) ?_ _
                  exact ⟨q3, q4, q5⟩
                exact AllReadyIn.nil
              exact AllReadyIn.nil
            exact AllReadyIn.nil
          exact AllReadyIn.nil
        exact AllReadyIn.nil
      exact AllReadyIn.nil
  case done =>
    rintro D ys W hD hys ⟨hM, hcl, hB⟩ hK
    obtain ⟨v, h1, h2, h3, h4, h5⟩ := hM.ex
    have hss : (ys.map fun x => Value.string (besideL nodB (leafAt l) x.1)) = ((lvls i 0 l.length).map (besideL nodB (leafAt l))).map Value.string :=
      Eq.trans (b := ((ys.map (·.1)).map (besideL nodB (leafAt l))).map Value.string) (by rw [List.map_map, List.map_map]; rfl) (congrArg (fun q : List Lev => (q.map (besideL nodB (leafAt l))).map Value.string) hys)
    have hyl : ys.length = ((lvls i 0 l.length).map (besideL nodB (leafAt l))).length := by
      have := congrArg List.length hys
      rw [List.length_map] at this
      rw [List.length_map]; exact this
    have hll := lvls_len i l.length 0
    have h3' := h3
    rw [hss, hyl] at h3'
    have RV := Lib.hid (Reverse_own _ v _ W h3' (by rw [List.length_map]; omega))
    have hlt2 := hM.lt
    gi_wp2_with (refine ⟨trivial, ?_⟩; gi_at_call 52; refine (callsIn_wide.2 RV.out).mono ?_; rintro e W2 ⟨rfl, ho, hg⟩; have kA : W2.cell? ⟨w.heap.size + 1, 0, none⟩ = some v := (World.cell?_of_block (w := W) (a := ⟨w.heap.size + 1, 0, none⟩) (hg.block _ hlt2 (fun e => h5 e.symm))).trans h1)
    have hK2 : W2.heap[D]? = some (.deferred (some [])) := (hg.block D (Array.getElem?_eq_some_iff.1 hK).1 (fun e => by
      have := own_cells (by decide) h3 h4 _ _ e.symm hK
      cases this)).trans hK
    have hB2 : Below w.heap.size w W2 := hB.grown hg hB.size (fun k e => by have := (h3.lt k e).1; omega)
    have hgp := grownBy_putObj' W2 D (.deferred none)
    have hO : Own (W2.putObj D (.deferred none)) w.heap.size 1 v (pathL nodB (leafAt l) i l.length).length ((pathL nodB (leafAt l) i l.length).map Value.string) := by
      have e1 : (pathL nodB (leafAt l) i l.length).length = ((lvls i 0 l.length).map (besideL nodB (leafAt l))).length := by unfold pathL; simp
      rw [e1]
      refine (ho.keep hgp.size fun g hgb => hgp.block g (ho.lt g hgb).2 fun e => ?_).mono (by omega)
      cases e
      have := own_cells (by decide) h3 h4 _ _ hgb hK
      cases this
    refine ⟨by simp, .inl ⟨_, _, rfl, run_takeDeferred hK2, ?_⟩⟩
    refine ⟨.tuple #[v, .int .i64 0], ?_, v, rfl, hO, hB2.trans (belowK_b (w := w) (Nat.le_refl _) W2 D _ _ (by omega) hK2 rfl rfl)⟩
    simp [results, Tryd.f20, go_sem]
  case stop =>
    rintro D c pre W _ _ h _
    exact h.elim
end Go.Proofs.YtpdbcahiipbhnaaDoor
