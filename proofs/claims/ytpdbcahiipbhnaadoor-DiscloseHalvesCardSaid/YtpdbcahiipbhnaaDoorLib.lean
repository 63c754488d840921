/- Laws of no program: a slice that the call itself has made, in whatever block of its own ('Own'), and what append does to it, whatever is appended. -/
import Derived.Deep.AppendSrc
import Derived.Deep.MidRow
import Derived.Deep.Upon
import Derived.WalkKit
namespace Go.Proofs.YtpdbcahiipbhnaaDoor
open Go.RowKit

/-- The slice v, n elements of 'size' cells, holds the cells xs in a block from B on; the block's cells may be written as far as the capacity goes. -/
def Own (w : World) (B size : Nat) (v : Value) (n : Nat) (xs : List Value) : Prop :=
  xs.length = n * size ∧ ((v = .slice none 0 0 ∧ n = 0) ∨
    ∃ g o cap, v = .slice (some ⟨g, o, none⟩) n cap ∧ B ≤ g ∧ g < w.heap.size ∧ n ≤ cap ∧ cap ≤ maxLen ∧ w.rangeAt g o xs ∧ w.there g o (cap * size))

theorem Own.nil (w : World) (B size : Nat) : Own w B size (.slice none 0 0) 0 [] := ⟨by simp, .inl ⟨rfl, rfl⟩⟩

theorem Own.mono {w : World} {B B' size : Nat} {v : Value} {n : Nat} {xs : List Value} (h : Own w B size v n xs) (hB : B' ≤ B) : Own w B' size v n xs :=
  ⟨h.1, h.2.imp id fun ⟨g, o, cap, h1, h2, h3⟩ => ⟨g, o, cap, h1, Nat.le_trans hB h2, h3⟩⟩

theorem rangeAt_block {w w' : World} {g o : Nat} {xs : List Value} (h : w.rangeAt g o xs) (e : w'.heap[g]? = w.heap[g]?) : w'.rangeAt g o xs :=
  fun j u hj => (World.cell?_of_block (w := w) (a := ⟨g, o + j, none⟩) e).trans (h j u hj)
theorem there_block {w w' : World} {g o n : Nat} (h : w.there g o n) (e : w'.heap[g]? = w.heap[g]?) : w'.there g o n :=
  fun j hj => by
    rw [World.cell?_of_block (w := w) (a := ⟨g, o + j, none⟩) e, World.frozen?_of_block (w := w) (a := ⟨g, o + j, none⟩) e]
    exact h j hj

/-- What is owned stays owned as long as its own block is as it was. -/
theorem Own.keep {w w' : World} {B size : Nat} {v : Value} {n : Nat} {xs : List Value} (h : Own w B size v n xs) (hs : w.heap.size ≤ w'.heap.size) (e : ∀ g, v.ownBlock = some g → w'.heap[g]? = w.heap[g]?) : Own w' B size v n xs := by
  refine ⟨h.1, h.2.imp id ?_⟩
  rintro ⟨g, o, cap, rfl, h2, h3, h4, h5, h6, h7⟩
  exact ⟨g, o, cap, rfl, h2, Nat.lt_of_lt_of_le h3 hs, h4, h5, rangeAt_block h6 (e g rfl), there_block h7 (e g rfl)⟩

theorem Own.lt {w : World} {B size : Nat} {v : Value} {n : Nat} {xs : List Value} (h : Own w B size v n xs) : ∀ g, v.ownBlock = some g → B ≤ g ∧ g < w.heap.size := by
  rcases h.2 with ⟨rfl, _⟩ | ⟨g, o, cap, rfl, h2, h3, _⟩
  · intro g h; cases h
  · rintro _ ⟨⟩; exact ⟨h2, h3⟩

theorem Own.alloc {w : World} {B size : Nat} {v : Value} {n : Nat} {xs : List Value} (h : Own w B size v n xs) (o : Obj) : Own (w.alloc o) B size v n xs :=
  h.keep (by simp) fun g hg => Below.heap_alloc _ _ _ (h.lt g hg).2
theorem Own.drew {w : World} {B size : Nat} {v : Value} {n : Nat} {xs : List Value} (h : Own w B size v n xs) : Own w.drew B size v n xs := h.keep (Nat.le_refl _) fun _ _ => rfl
/-- Behind a call that leaves all that was there as it was. -/
theorem Own.below {w w' : World} {B size : Nat} {v : Value} {n : Nat} {xs : List Value} (h : Own w B size v n xs) (hb : Below w.heap.size w w') : Own w' B size v n xs :=
  h.keep hb.size fun g hg => hb.block g (h.lt g hg).2
theorem Own.belowAt {w w' : World} {B B' size : Nat} {v : Value} {n : Nat} {xs : List Value} (h : Own w B size v n xs) (hb : Below B' w w') (hB : ∀ g, v.ownBlock = some g → g < B') : Own w' B size v n xs :=
  h.keep hb.size fun g hg => hb.block g (hB g hg)
theorem Own.setCell {w : World} {B size : Nat} {v : Value} {n : Nat} {xs : List Value} (h : Own w B size v n xs) (a : Addr) (ha : ∀ g, v.ownBlock = some g → g ≠ a.block) (u : Value) : Own (w.setCell a u) B size v n xs :=
  h.keep (by simp [World.setCell]) fun g hg => Below.heap_setCell _ _ _ _ (ha g hg)
theorem Own.grown {w w' : World} {B size : Nat} {v : Value} {n : Nat} {xs : List Value} {row : Option Nat} (h : Own w B size v n xs) (hg : w.grownBy w' row) (hr : ∀ g, v.ownBlock = some g → some g ≠ row) : Own w' B size v n xs :=
  h.keep hg.size fun g e => hg.block g (h.lt g e).2 (hr g e)

theorem tape_setCells (g : Nat) : ∀ (vs : List Value) (o : Nat) (w : World), (w.setCells g o vs).tape = w.tape
  | [], _, _ => rfl
  | _ :: r, o, w => by rw [World.setCells, tape_setCells g r]; rfl
theorem size_setCells (g : Nat) : ∀ (vs : List Value) (o : Nat) (w : World), (w.setCells g o vs).heap.size = w.heap.size
  | [], _, _ => rfl
  | _ :: r, o, w => by rw [World.setCells, size_setCells g r]; simp [World.setCell]
theorem grownBy_setCells (w : World) (g o : Nat) (vs : List Value) : w.grownBy (w.setCells g o vs) (some g) :=
  ⟨World.os_setCells _ _ _ _, tape_setCells _ _ _ _, World.output_setCells _ _ _ _, by rw [size_setCells]; exact Nat.le_refl _, fun k hk hne => World.heap_setCells_other _ _ _ _ hk fun e => hne (by rw [e])⟩

section
variable {P : Program} {w : World}
/-- APPEND, WHATEVER IS APPENDED: in its own block where there is room, else in a new one. -/
theorem run_append_Own (B : Nat) (t tx ty e : TypeId) (i : TypeInfo) (z : Value) (size bytes : Nat) (ht : P.underlying t = some (.slice e)) (hi : P.info? e = some i) (hz : i.zero = some z)
    (hsize : i.size = size) (hby : i.bytes = bytes) (hzs : z.cells.size = size)
    (v : Value) (n : Nat) (xs : List Value) (hown : Own w B size v n xs) (x : Value) (m : Nat) (news : List Value) (hsrc : Src P size tx x m news w)
    (h63 : n + m ≤ maxLen) (hbytes : (n + m) * bytes ≤ 140737488355328) (hbase : B ≤ w.heap.size) :
    ∃ v' w', (Builtin.append_ #[t, tx] ty #[v, x]).run P w = .ok v' w' ∧ Own w' B size v' (n + m) (xs ++ news) ∧ w.grownBy w' v.ownBlock ∧ (n + m ≠ 0 → v' ≠ .slice none 0 0) := by
  subst hsize
  subst hby
  have h63' : n + m ≤ 9223372036854775807 := by simp only [maxLen] at h63; omega
  have hlen : (xs ++ news).length = (n + m) * i.size := by rw [List.length_append, hown.1, hsrc.newsLen, Nat.add_mul]
  have grow : ∀ (old : Nat) (row : Option Nat), old < n + m →
      Own (w.drew.alloc (.cells ((xs ++ news).toArray ++ Builtin.zeroCells z.cells (grownCap w (n + m) old e - (n + m))) e)) B i.size
        (.slice (some ⟨w.heap.size, 0, none⟩) (n + m) (grownCap w (n + m) old e)) (n + m) (xs ++ news) ∧
      w.grownBy (w.drew.alloc (.cells ((xs ++ news).toArray ++ Builtin.zeroCells z.cells (grownCap w (n + m) old e - (n + m))) e)) row := by
    intro old row ho
    have hge := grownCap_ge w (n + m) old e
    have hb : (w.drew.alloc (.cells ((xs ++ news).toArray ++ Builtin.zeroCells z.cells (grownCap w (n + m) old e - (n + m))) e)).heap[w.heap.size]? = some (.cells ((xs ++ news).toArray ++ Builtin.zeroCells z.cells (grownCap w (n + m) old e - (n + m))) e) := heap_alloc_new w.drew _
    have hsz : ((xs ++ news).toArray ++ Builtin.zeroCells z.cells (grownCap w (n + m) old e - (n + m))).size = grownCap w (n + m) old e * i.size := by
      simp only [Array.size_append, List.size_toArray, hlen, size_zeroCells, hzs, ← Nat.add_mul]
      congr 1
      omega
    generalize hC : (xs ++ news).toArray ++ Builtin.zeroCells z.cells (grownCap w (n + m) old e - (n + m)) = C at *
    refine ⟨⟨hlen, .inr ⟨w.heap.size, 0, _, rfl, hbase, by simp, hge, grownCap_le_maxLen w _ old e h63, fun j u hj => ?_, fun j hj => ?_⟩⟩, ⟨rfl, rfl, rfl, by simp, fun k hk _ => Below.heap_alloc w.drew _ k hk⟩⟩
    · have hjl : j < (xs ++ news).length := (List.getElem?_eq_some_iff.1 hj).1
      simp only [World.cell?, Nat.zero_add, hb]
      show C[j]? = some u
      rw [← hC, Array.getElem?_append_left (by simpa using hjl)]
      simpa using hj
    · refine ⟨?_, ?_⟩
      · simp only [World.cell?, Nat.zero_add, hb]
        show (C[j]?).isSome = true
        rw [Array.getElem?_eq_getElem (by rw [hsz]; exact hj)]; rfl
      · simp only [World.frozen?, Nat.zero_add, hb]
        simp
  rcases hown.2 with ⟨rfl, rfl⟩ | ⟨g, o, cap, rfl, hBg, hgs, hnc, hcm, hr, hth⟩
  · have hx : xs = [] := List.eq_nil_of_length_eq_zero (by simpa using hown.1)
    subst hx
    by_cases hm : m = 0
    · subst hm
      have hn : news = [] := List.eq_nil_of_length_eq_zero (by simpa using hsrc.newsLen)
      subst hn
      refine ⟨.slice none 0 0, w, ?_, Own.nil w B i.size, ⟨rfl, rfl, rfl, Nat.le_refl _, fun _ _ _ => rfl⟩, fun h => absurd rfl h⟩
      have hc := hsrc.cells
      rcases hsrc.kind with ⟨e', hk⟩ | hk <;> simp [Builtin.append_, run_underlying ht, run_underlying hk, sizeOf, typeInfo, hi, hsrc.len, hc]
    · have hg := run_append_grow_src (P := P) w t tx ty e i z ht hi hz none 0 0 [] (by simp [Builtin.firstCells]) x m news hsrc (by omega) (by omega) (growslice_fits (by omega) hbytes)
      have hgr := grow 0 (Value.ownBlock (.slice none 0 0)) (by omega)
      exact ⟨_, _, hg, hgr.1, hgr.2, fun _ h => by cases h⟩
  · by_cases hroom : n + m ≤ cap
    · have hin : ∀ j, j < news.length → n * i.size + j < cap * i.size := fun j hj => by
        have h1 := hsrc.newsLen
        have h2 : (n + m) * i.size ≤ cap * i.size := Nat.mul_le_mul_right _ hroom
        rw [Nat.add_mul] at h2; omega
      have hth' : w.there g (o + n * i.size) news.length := fun j hj => by
        have := hth (n * i.size + j) (hin j hj)
        rwa [← Nat.add_assoc] at this
      have hg := run_append_room_src (P := P) w t tx ty e i ht hi g o n cap x m news hsrc hroom (fun j hj => (hth' j hj).1) (fun j hj => (hth' j hj).2)
      refine ⟨_, _, hg, ⟨hlen, .inr ⟨g, o, cap, rfl, hBg, by rw [size_setCells]; exact hgs, hroom, hcm, fun j u hj => ?_, World.there_setCells hth _ _ _⟩⟩, grownBy_setCells _ _ _ _, fun _ h => by cases h⟩
      by_cases hjx : j < xs.length
      · rw [List.getElem?_append_left hjx] at hj
        exact World.rangeAt_setCells_apart hr _ _ _ (.inr (.inl (by rw [hown.1]; exact Nat.le_refl _))) j u hj
      · rw [List.getElem?_append_right (by omega)] at hj
        have := World.rangeAt_setCells_same w g (o + n * i.size) news hth' (j - xs.length) u hj
        rwa [show o + n * i.size + (j - xs.length) = o + j by have := hown.1; omega] at this
    · have hold : (Builtin.firstCells i.size n (.slice (some ⟨g, o, none⟩) n cap)).run P w.drew = .ok xs.toArray w.drew :=
        run_firstCells_some (P := P) w.drew i.size n ⟨g, o, none⟩ n cap xs hown.1 (fun j u hj => by rw [Addr.add_mid]; exact hr j u hj)
      have hg := run_append_grow_src (P := P) w t tx ty e i z ht hi hz (some ⟨g, o, none⟩) n cap xs hold x m news hsrc (by omega) (by omega) (growslice_fits (by omega) hbytes)
      have hgr := grow cap (Value.ownBlock (.slice (some ⟨g, o, none⟩) n cap)) (by omega)
      exact ⟨_, _, hg, hgr.1, hgr.2, fun _ h => by cases h⟩

theorem wpList_append_Own {ops : Array Oper} {rest : List Oper} {op : Oper} {a : Act} {Q : Exit → Act → World → Prop} (hgd : op.guard = none) (s x : Operand) (t tx : TypeId)
    (ho : op.op = .call { callee := .builtin .append, args := #[s, x], argTypes := #[t, tx] })
    (B : Nat) (e : TypeId) (i : TypeInfo) (z : Value) (size bytes : Nat) (ht : P.underlying t = some (.slice e)) (hi : P.info? e = some i) (hz : i.zero = some z)
    (hsize : i.size = size) (hby : i.bytes = bytes) (hzs : z.cells.size = size)
    (v : Value) (n : Nat) (xs : List Value) (hs : a.eval s = v) (hown : Own w B size v n xs) (xv : Value) (m : Nat) (news : List Value) (hx : a.eval x = xv) (hsrc : Src P size tx xv m news w)
    (h63 : n + m ≤ maxLen) (hbytes : (n + m) * bytes ≤ 140737488355328) (hbase : B ≤ w.heap.size)
    (h : ∀ v' w', Own w' B size v' (n + m) (xs ++ news) → w.grownBy w' v.ownBlock → (n + m ≠ 0 → v' ≠ .slice none 0 0) → wpList P ops Q rest (a.put op.dst v') w') : wpList P ops Q (op :: rest) a w :=
  wpList_plain hgd fun _ hK => by
    obtain ⟨v', w', hr, h2, h3, h4⟩ := run_append_Own (P := P) B t tx op.type e i z size bytes ht hi hz hsize hby hzs v n xs hown xv m news hsrc h63 hbytes hbase
    unfold Oper.wp execOp
    simp only [ho, resolve, invoke, builtin, Sem.run_bind, Sem.run_pure, Result.andThen_ok, List.map_toArray, List.map_cons, List.map_nil, hs, hx, hr]
    exact hK _ _ (h v' w' h2 h3 h4)
end

/-- Bytes as cells. -/
def bv (l : List UInt8) : List Value := l.map fun c => Value.int .u8 c.toNat
theorem bv_length (l : List UInt8) : (bv l).length = l.length := by simp [bv]
theorem bv_append (l m : List UInt8) : bv (l ++ m) = bv l ++ bv m := by simp [bv]
theorem bv_one (l : List UInt8) : ∀ u ∈ bv l, u.oneCell' = true := by
  intro u hu
  obtain ⟨_, _, rfl⟩ := List.mem_map.1 hu
  rfl
theorem bv_at (l : List UInt8) (j : Nat) (h : j < l.length) : (bv l)[j]? = some (.int .u8 ((l.getD j 0).toNat : Int)) := by
  simp [bv, List.getElem?_map, List.getElem?_eq_getElem h, List.getD]

/-- ONE ELEMENT, in a new block of its own, as 'append(v, x)' lays it. -/
theorem Src_one {P : Program} {tx e' : TypeId} (hk : P.underlying tx = some (.slice e')) (w : World) (u : Value) (t : TypeId) (h1 : u.oneCell' = true) (c : Nat) :
    Src P 1 tx (.slice (some ⟨w.heap.size, 0, none⟩) 1 c) 1 [u] (w.alloc (.cells #[u] t)) := by
  refine Src.ofSlice _ hk _ 1 c [u] rfl (fun j x hj => ?_) (by simpa using h1)
  match j, hj with
  | 0, hj =>
    simp only [List.getElem?_cons_zero, Option.some.injEq] at hj
    subst hj
    rw [Addr.add_mid, World.cell?_alloc_at _ _ _ _ rfl]; rfl

/-- One element that lies at an address. -/
theorem Src_cell {P : Program} {tx e' : TypeId} (hk : P.underlying tx = some (.slice e')) (w : World) (b o : Nat) (u : Value) (h1 : u.oneCell' = true) (c : Nat) (h : w.cell? ⟨b, o, none⟩ = some u) :
    Src P 1 tx (.slice (some ⟨b, o, none⟩) 1 c) 1 [u] w := by
  refine Src.ofSlice _ hk _ 1 c [u] rfl (fun j x hj => ?_) (by simpa using h1)
  match j, hj with
  | 0, hj =>
    simp only [List.getElem?_cons_zero, Option.some.injEq] at hj
    subst hj
    rw [Addr.add_mid]; exact h

/-- What '[]byte(s)' gives is the call's own. -/
theorem Own_ofBytes (w : World) (s : ByteArray) (e : TypeId) (hs : s.size ≤ maxLen) :
    Own (w.drew.alloc (.cells (bytesRow s (grownCap w s.size 0 e)) e ((bytesRow s (grownCap w s.size 0 e)).size, (bytesRow s (grownCap w s.size 0 e)).size + 1))) w.heap.size 1
      (.slice (some ⟨w.heap.size, 0, none⟩) s.size (grownCap w s.size 0 e)) s.size (bv s.data.toList) := by
  have hge : s.size ≤ grownCap w s.size 0 e := grownCap_ge w s.size 0 e
  have hsd : s.data.size = s.size := rfl
  have hrow : (bytesRow s (grownCap w s.size 0 e)).size = grownCap w s.size 0 e := by simp [bytesRow]; omega
  have hb : (w.drew.alloc (.cells (bytesRow s (grownCap w s.size 0 e)) e ((bytesRow s (grownCap w s.size 0 e)).size, (bytesRow s (grownCap w s.size 0 e)).size + 1))).heap[w.heap.size]? = some (.cells (bytesRow s (grownCap w s.size 0 e)) e ((bytesRow s (grownCap w s.size 0 e)).size, (bytesRow s (grownCap w s.size 0 e)).size + 1)) := heap_alloc_new w.drew _
  refine ⟨by simp [bv], .inr ⟨_, 0, _, rfl, Nat.le_refl _, by simp, hge, grownCap_le_maxLen w _ 0 e hs, fun j u hj => ?_, fun j hj => ?_⟩⟩
  · have hjl : j < s.data.size := by simpa [bv] using (List.getElem?_eq_some_iff.1 hj).1
    simp only [World.cell?, Nat.zero_add, hb]
    show (bytesRow s (grownCap w s.size 0 e))[j]? = some u
    rw [bytesRow_at s _ j hjl]
    rw [bv_at s.data.toList j (by simpa using hjl)] at hj
    rw [← hj, List.getD, List.getElem?_eq_getElem (by simpa using hjl)]
    simp
  · refine ⟨?_, ?_⟩
    · simp only [World.cell?, Nat.zero_add, hb]
      show ((bytesRow s (grownCap w s.size 0 e))[j]?).isSome = true
      rw [Array.getElem?_eq_getElem (by rw [hrow]; simpa using hj)]; rfl
    · simp only [World.frozen?, Nat.zero_add, hb]
      simp [hrow]; omega

theorem Own.shape {w : World} {B size : Nat} {v : Value} {n : Nat} {xs : List Value} (h : Own w B size v n xs) : ∃ ao cap, v = .slice ao n cap ∧ n ≤ cap ∧ cap ≤ maxLen := by
  rcases h.2 with ⟨rfl, rfl⟩ | ⟨g, o, cap, rfl, _, _, h4, h5, _⟩
  · exact ⟨none, 0, rfl, Nat.le_refl _, by simp [maxLen]⟩
  · exact ⟨_, cap, rfl, h4, h5⟩
/-- A slice that is not empty begins somewhere. -/
theorem Own.place {w : World} {B size : Nat} {v : Value} {n : Nat} {xs : List Value} (h : Own w B size v n xs) (hn : 0 < n) :
    ∃ g o cap, v = .slice (some ⟨g, o, none⟩) n cap ∧ B ≤ g ∧ g < w.heap.size ∧ n ≤ cap ∧ cap ≤ maxLen ∧ w.rangeAt g o xs ∧ w.there g o (cap * size) := by
  rcases h.2 with ⟨rfl, rfl⟩ | h
  · omega
  · exact h

theorem there_below {B : Nat} {w w' : World} {g o n : Nat} (h : w.there g o n) (hb : Below B w w') (hg : g < B) : w'.there g o n := there_block h (hb.block g hg)
theorem rangeAt_below {B : Nat} {w w' : World} {g o : Nat} {xs : List Value} (h : w.rangeAt g o xs) (hb : Below B w w') (hg : g < B) : w'.rangeAt g o xs := rangeAt_block h (hb.block g hg)
theorem there_grown {w w' : World} {g o n : Nat} {row : Option Nat} (h : w.there g o n) (hg : w.grownBy w' row) (hlt : g < w.heap.size) (hr : some g ≠ row) : w'.there g o n := there_block h (hg.block g hlt hr)
theorem rangeAt_grown {w w' : World} {g o : Nat} {xs : List Value} {row : Option Nat} (h : w.rangeAt g o xs) (hg : w.grownBy w' row) (hlt : g < w.heap.size) (hr : some g ≠ row) : w'.rangeAt g o xs := rangeAt_block h (hg.block g hlt hr)
theorem there_new (w : World) (cs : Array Value) (t : TypeId) (n : Nat) (h : n ≤ cs.size) : (w.alloc (.cells cs t)).there w.heap.size 0 n := fun j hj => by
  refine ⟨?_, World.frozen?_alloc_at _ _ _ _ (by simp)⟩
  rw [World.cell?_alloc_at _ _ _ _ (by simp)]
  simp only [Nat.zero_add]
  rw [Array.getElem?_eq_getElem (by omega)]; rfl
theorem rangeAt_new (w : World) (cs : Array Value) (t : TypeId) : (w.alloc (.cells cs t)).rangeAt w.heap.size 0 cs.toList := fun j u hj => by
  rw [World.cell?_alloc_at _ _ _ _ (by simp)]
  simpa using hj
theorem there_alloc {w : World} {g o n : Nat} (h : w.there g o n) (hg : g < w.heap.size) (ob : Obj) : (w.alloc ob).there g o n := there_block h (Below.heap_alloc _ _ _ hg)
theorem rangeAt_alloc {w : World} {g o : Nat} {xs : List Value} (h : w.rangeAt g o xs) (hg : g < w.heap.size) (ob : Obj) : (w.alloc ob).rangeAt g o xs := rangeAt_block h (Below.heap_alloc _ _ _ hg)
theorem there_setCell {w : World} {g o n : Nat} (h : w.there g o n) (a : Addr) (u : Value) : (w.setCell a u).there g o n := fun j hj => by
  refine ⟨?_, by rw [World.frozen?_setCell]; exact (h j hj).2⟩
  obtain ⟨x, hx⟩ := Option.isSome_iff_exists.1 (h j hj).1
  by_cases e : a = ⟨g, o + j, none⟩
  · subst e; rw [World.cell?_setCell_same _ _ _ hx]; rfl
  · rw [World.cell?_setCell_other _ _ _ _ e, hx]; rfl
/-- A store into a range: the list with that element replaced. -/
theorem rangeAt_set {w : World} {g o : Nat} {xs : List Value} (h : w.rangeAt g o xs) (k : Nat) (u : Value) : (w.setCell ⟨g, o + k, none⟩ u).rangeAt g o (xs.set k u) := fun j v hj => by
  rw [List.getElem?_set] at hj
  split at hj
  · rename_i e
    subst e
    split at hj
    · cases hj
      rename_i hk
      exact World.cell?_setCell_same _ _ _ (h k _ (List.getElem?_eq_getElem hk))
    · cases hj
  · rename_i e
    rw [World.cell?_setCell_other _ _ _ _ (by simp only [ne_eq, Addr.mk.injEq, not_and]; omega)]
    exact h j v hj
theorem rangeAt_setOther {w : World} {g o : Nat} {xs : List Value} (h : w.rangeAt g o xs) (a : Addr) (ha : g ≠ a.block) (u : Value) : (w.setCell a u).rangeAt g o xs := rangeAt_block h (Below.heap_setCell _ _ _ _ ha)
theorem there_drew {w : World} {g o n : Nat} (h : w.there g o n) : w.drew.there g o n := h
theorem rangeAt_drew {w : World} {g o : Nat} {xs : List Value} (h : w.rangeAt g o xs) : w.drew.rangeAt g o xs := h
theorem rangeAt_take {w : World} {g o : Nat} {xs : List Value} (h : w.rangeAt g o xs) (n k : Nat) : w.rangeAt g (o + n) ((xs.drop n).take k) := fun j u hj => by
  rw [List.getElem?_take] at hj
  split at hj
  · rw [List.getElem?_drop] at hj
    have := h (n + j) u hj
    rwa [← Nat.add_assoc] at this
  · cases hj

/-- A cell of the newest block, and of the one before it. -/
theorem new0 {w : World} {c : Array Value} {t : TypeId} {n i : Nat} {v : Value} (hn : n = w.heap.size) (h : c[i]? = some v) : (w.alloc (.cells c t)).cell? ⟨n, i, none⟩ = some v := (World.cell?_alloc_at _ _ _ _ hn).trans h
theorem new1 {w : World} {c : Array Value} {t : TypeId} {n i : Nat} {v : Value} {o : Obj} (hn : n = w.heap.size) (h : c[i]? = some v) : ((w.alloc (.cells c t)).alloc o).cell? ⟨n, i, none⟩ = some v :=
  (World.cell?_alloc_past _ _ _ (by rw [hn]; simp)).trans (new0 hn h)

/-- An element of an array by value. -/
theorem index_agg {P : Program} {t e : TypeId} {n : Nat} {i : TypeInfo} {k0 : IntKind} (ht : P.underlying t = some (.array n e)) (he : P.underlying e = some (.int k0)) (hi : P.info? e = some i) (hs : i.size = 1)
    (cs : Array Value) (k : Nat) (v : Value) (hk : k < n) (hv : cs[k]? = some v) (w : World) : (Instr.index t (.agg cs) (.int .i64 (k : Int))).run P w = .ok v w := by
  simp [Instr.index, run_underlying ht, asIntOf, sizeOf, typeInfo, hi, hs, hk]
  simp [part, isAgg, run_underlying he, hv, go_sem]

theorem wpList_index_agg {P : Program} {w : World} {ops : Array Oper} {rest : List Oper} {op : Oper} {a : Act} {Q : Exit → Act → World → Prop} (hgd : op.guard = none) (t : TypeId) (x y : Operand) (ho : op.op = .index t x y)
    (e : TypeId) (n : Nat) (i : TypeInfo) (k0 : IntKind) (ht : P.underlying t = some (.array n e)) (he : P.underlying e = some (.int k0)) (hi : P.info? e = some i) (hs : i.size = 1)
    (cs : Array Value) (hx : a.eval x = .agg cs) (k : Nat) (hy : a.eval y = .int .i64 (k : Int)) (v : Value) (hk : k < n) (hv : cs[k]? = some v)
    (h : wpList P ops Q rest (a.put op.dst v) w) : wpList P ops Q (op :: rest) a w :=
  wpList_plain hgd fun _ hK => by
    unfold Oper.wp execOp
    simp only [ho, hx, hy, Sem.run_bind, Sem.run_pure, Result.andThen_ok, index_agg ht he hi hs cs k v hk hv w]
    exact hK _ _ h

/-- A result that is an array or a struct, read out of its variable. -/
theorem results_cell_mid {P : Program} {fn : Func} {p : Tmp} {ty : TypeId} (h : fn.results = #[.cell p ty]) (tmps : Array Value) (w : World) (b o : Nat) (cs : List Value) (d : TypeDesc)
    (hp : tmps.getD p undef = .pointer (some ⟨b, o, none⟩)) (hc : w.rangeAt b o cs) (hu : P.underlying ty = some d) (hd : d.isRow = true) (hi : (P.info? ty).map (·.size) = some cs.length) :
    (results fn tmps).run P w = .ok (.agg cs.toArray) w := by
  have hp' : tmps[p]?.getD undef = .pointer (some ⟨b, o, none⟩) := by simpa using hp
  simp [results, h, hp', asAddr, run_loadVar_mid w b o ty cs d hc hu hd hi]

/-- A whole array stored: the walk goes on in SOME world in which it lies there. -/
theorem wpList_store_any {P : Program} {w : World} {ops : Array Oper} {rest : List Oper} {op : Oper} {a : Act} {Q : Exit → Act → World → Prop} (hgd : op.guard = none) (ty : TypeId) (x y : Operand) (ho : op.op = .store ty x y)
    (b o : Nat) (cells : List Value) (hx : a.eval x = .pointer (some ⟨b, o, none⟩)) (hy : a.eval y = .agg cells.toArray)
    (ht : w.there b o cells.length) (hi : (P.info? ty).map (·.size) = some cells.length) (h1 : ∀ u ∈ cells, u.oneCell' = true)
    (h : ∀ w', w'.rangeAt b o cells → w'.there b o cells.length → w.grownBy w' (some b) → wpList P ops Q rest (a.put op.dst undef) w') : wpList P ops Q (op :: rest) a w := by
  refine wpList_store_mid hgd ty x y ho b o cells.toArray hx hy (by simpa using ht) (by simpa using hi) (all_oneCell_toArray h1) ?_
  exact h _ (World.rangeAt_setCells_same _ _ _ _ ht) (World.there_setCells ht _ _ _) (grownBy_setCells _ _ _ _)

/-- 'string(b)': the bytes that lie there. -/
theorem foldl_push (bs : List UInt8) : ∀ (r : ByteArray), (bs.map fun c => ((c.toNat : Nat) : Int)).foldl (fun r n => r.push (UInt8.ofNat n.toNat)) r = ⟨(r.data.toList ++ bs).toArray⟩ := by
  induction bs with
  | nil => intro r; simp
  | cons c bs ih =>
    intro r
    simp only [List.map_cons, List.foldl_cons, ih]
    simp
theorem run_string_bytes {P : Program} {w : World} {src dst e : TypeId} {b o l c : Nat} (bs : List UInt8) (hr : w.rangeAt b o (bv bs)) (hl : bs.length = l) (hs : P.underlying src = some (.slice e)) (he : P.underlying e = some (.int .u8)) (hd : P.underlying dst = some .string) :
    (convert src dst (.slice (some ⟨b, o, none⟩) l c)).run P w = .ok (.string ⟨bs.toArray⟩) w := by
  have hm : bv bs = (bs.map fun c => ((c.toNat : Nat) : Int)).map (Value.int .u8) := by simp [bv]
  rw [run_convert_bytes_string w src dst e _ l c hs he hd, run_bytesToString w ⟨b, o, none⟩ l c (bs.map fun c => ((c.toNat : Nat) : Int)) (by
    rw [← hm, ← hl, ← bv_length bs]
    exact run_loadCells_list (P := P) w ⟨b, o, none⟩ (bv bs) (fun j u hj => by rw [Addr.add_mid]; exact hr j u hj)), foldl_push]
  rfl
theorem wpList_string {P : Program} {w : World} {ops : Array Oper} {rest : List Oper} {op : Oper} {a : Act} {Q : Exit → Act → World → Prop} (hgd : op.guard = none) (src dst : TypeId) (x : Operand) (ho : op.op = .convert src dst x)
    (e : TypeId) (b o l c : Nat) (hx : a.eval x = .slice (some ⟨b, o, none⟩) l c) (bs : List UInt8) (hr : w.rangeAt b o (bv bs)) (hl : bs.length = l) (hs : P.underlying src = some (.slice e)) (he : P.underlying e = some (.int .u8)) (hd : P.underlying dst = some .string)
    (h : wpList P ops Q rest (a.put op.dst (.string ⟨bs.toArray⟩)) w) : wpList P ops Q (op :: rest) a w :=
  wpList_plain hgd fun _ hK => by
    unfold Oper.wp execOp
    simp only [ho, hx, Sem.run_bind, Sem.run_pure, Result.andThen_ok, run_string_bytes bs hr hl hs he hd]
    exact hK _ _ h

/-- What a cell holds, whatever it is: so that the walk sees that the cell is there. -/
def valAt (w : World) (a : Addr) : Value := (w.cell? a).getD undef
theorem valAt_of {w : World} {a : Addr} (h : (w.cell? a).isSome = true) : w.cell? a = some (valAt w a) := by
  obtain ⟨u, hu⟩ := Option.isSome_iff_exists.1 h
  simp [valAt, hu]
theorem isSome_of {w : World} {a : Addr} (h : w.cell? a = some (valAt w a)) : (w.cell? a).isSome = true := by rw [h]; rfl
theorem there_cell {w : World} {b o n : Nat} (h : w.there b o n) (j : Nat) (hj : j < n) : w.cell? ⟨b, o + j, none⟩ = some (valAt w ⟨b, o + j, none⟩) := valAt_of (h j hj).1

theorem isSome_setCell {w : World} {a b : Addr} {v : Value} (h : (w.cell? a).isSome = true) : ((w.setCell b v).cell? a).isSome = true := by
  obtain ⟨u, hu⟩ := Option.isSome_iff_exists.1 h
  by_cases e : b = a
  · subst e; rw [World.cell?_setCell_same _ _ _ hu]; rfl
  · rw [World.cell?_setCell_other _ _ _ _ e, hu]; rfl

theorem maxLen_eq : maxLen = 9223372036854775807 := rfl
/-- The cell of one element. -/
theorem Own.cellAt {w : World} {B : Nat} {g o n cap : Nat} {xs : List Value} (h : Own w B 1 (.slice (some ⟨g, o, none⟩) n cap) n xs) {j : Nat} {u : Value} (hj : xs[j]? = some u) : w.cell? ⟨g, o + j, none⟩ = some u := by
  rcases h.2 with ⟨h, _⟩ | ⟨_, _, _, ⟨⟩, _, _, _, _, hr, _⟩
  · cases h
  · exact hr j u hj
end Go.Proofs.YtpdbcahiipbhnaaDoor
