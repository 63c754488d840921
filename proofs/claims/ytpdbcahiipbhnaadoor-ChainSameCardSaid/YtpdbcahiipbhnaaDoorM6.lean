/- Layer 31: chain.Append. -/
import Derived.Test.YtpdbcahiipbhnaaDoorM5
import Derived.Test.YtpdbcahiipbhnaaDoorP9
import Derived.Outline
namespace Go.Proofs.YtpdbcahiipbhnaaDoor
open Go.RowKit

/-- The seven cells of an entry. -/
def Ent.cells (e : Ent) : List Value := [.int .i64 e.house, .int .i64 e.seq, .int .i64 e.day, .string e.prev, .string e.body, .int .i64 e.r, .int .i64 e.s]
def cellsE (l : List Ent) : List Value := l.flatMap Ent.cells
theorem cellsE_len (l : List Ent) : (cellsE l).length = l.length * 7 := by
  induction l with
  | nil => rfl
  | cons e l ih => simp only [cellsE, List.flatMap_cons, List.length_append] at ih ⊢; rw [ih, List.length_cons]; show 7 + _ = _; omega
theorem cellsE_append (l m : List Ent) : cellsE (l ++ m) = cellsE l ++ cellsE m := by simp [cellsE]
theorem cellsE_at (l : List Ent) : ∀ (i j : Nat), j < 7 → (cellsE l)[i * 7 + j]? = (l[i]?).bind fun e => e.cells[j]? := by
  induction l with
  | nil => intro i j _; simp [cellsE]
  | cons e l ih =>
    intro i j hj
    simp only [cellsE, List.flatMap_cons] at ih ⊢
    rcases i with _ | i
    · rw [Nat.zero_mul, Nat.zero_add, List.getElem?_append_left (by show j < 7; omega)]; rfl
    · rw [List.getElem?_append_right (by show 7 ≤ _; omega), show (i + 1) * 7 + j - e.cells.length = i * 7 + j by show _ - 7 = _; omega, ih i j hj]; rfl
theorem cellsE_one (l : List Ent) : ∀ u ∈ cellsE l, u.oneCell' = true := by
  intro u hu
  obtain ⟨e, _, he⟩ := List.mem_flatMap.1 hu
  simp only [Ent.cells, List.mem_cons, List.not_mem_nil, or_false] at he
  rcases he with rfl | rfl | rfl | rfl | rfl | rfl | rfl <;> rfl
theorem atE_cell {w : World} {n o : Nat} {e : Ent} (h : AtE w n o e) (j : Nat) (u : Value) (hj : e.cells[j]? = some u) : w.cell? ⟨n, o + j, none⟩ = some u := by
  obtain ⟨c0, c1, c2, c3, c4, c5, c6⟩ := h
  match j, hj with
  | 0, hj => cases hj; exact c0
  | 1, hj => cases hj; exact c1
  | 2, hj => cases hj; exact c2
  | 3, hj => cases hj; exact c3
  | 4, hj => cases hj; exact c4
  | 5, hj => cases hj; exact c5
  | 6, hj => cases hj; exact c6
theorem EntsAt.cells {w : World} {ao : Option Addr} {lb lo : Nat} {l : List Ent} (h : EntsAt w ao lb lo l) (j : Nat) (u : Value) (hj : (cellsE l)[j]? = some u) : w.cell? ⟨lb, lo + j, none⟩ = some u := by
  have e : j = j / 7 * 7 + j % 7 := by omega
  rw [e, cellsE_at l (j / 7) (j % 7) (Nat.mod_lt _ (by decide))] at hj
  obtain ⟨x, hx, hu⟩ := Option.bind_eq_some_iff.1 hj
  have := atE_cell (h.at_ (j / 7) x hx) (j % 7) u hu
  rw [e, ← Nat.add_assoc]; exact this
theorem EntsAt.of_cells {w : World} {lb lo : Nat} {l : List Ent} (hb : 0 < l.length → lb < w.heap.size) (h : ∀ j u, (cellsE l)[j]? = some u → w.cell? ⟨lb, lo + j, none⟩ = some u) : EntsAt w (some ⟨lb, lo, none⟩) lb lo l := by
  refine ⟨fun hl => ⟨rfl, hb hl⟩, fun i e he => ?_⟩
  have key : ∀ j, j < 7 → ∀ u, e.cells[j]? = some u → w.cell? ⟨lb, lo + i * 7 + j, none⟩ = some u := fun j hj u hu => by
    rw [Nat.add_assoc]; exact h _ _ (by rw [cellsE_at l i j hj, he]; exact hu)
  exact ⟨key 0 (by decide) _ rfl, key 1 (by decide) _ rfl, key 2 (by decide) _ rfl, key 3 (by decide) _ rfl, key 4 (by decide) _ rfl, key 5 (by decide) _ rfl, key 6 (by decide) _ rfl⟩
/-- A list of entries as what is appended. -/
theorem EntsAt.src {w : World} {ao : Option Addr} {lb lo c : Nat} {l : List Ent} (h : EntsAt w ao lb lo l) : Src Tryd.prog 7 51 (.slice ao l.length c) l.length (cellsE l) w := by
  rcases l with _ | ⟨e, t⟩
  · rcases ao with _ | a
    · exact Src.ofNil w Tryd.underlying51 c
    · exact Src.ofSlice w Tryd.underlying51 a 0 c [] rfl (fun j u hj => by simp at hj) (fun u hu => by cases hu)
  · have ha := (h.ao (by simp)).1
    rw [ha]
    exact Src.ofSlice w Tryd.underlying51 ⟨lb, lo, none⟩ _ c (cellsE (e :: t)) (cellsE_len _) (fun j u hj => by rw [Addr.add_mid]; exact h.cells j u hj) (cellsE_one _)
theorem infoEnt : (Tryd.prog.info? 63).map (fun i => (i.zero, i.size, i.bytes)) = some (some (.agg #[.int .i64 0, .int .i64 0, .int .i64 0, .string ⟨#[]⟩, .string ⟨#[]⟩, .int .i64 0, .int .i64 0]), 7, 72) := by kernel_rfl
theorem step_app_ent {w : World} {ops : Array Oper} {o : Oper} {a : Act} {K : Act → World → Prop} {Q : Exit → Act → World → Prop} {E : Prop} (hgd : o.guard = none) (s x : Operand)
    (ho : o.op = .call { callee := .builtin .append, args := #[s, x], argTypes := #[51, 51] })
    (B : Nat) (v : Value) (n : Nat) (xs : List Value) (hs : a.eval s = v) (hown : Own w B 7 v n xs) (xv : Value) (m : Nat) (news : List Value) (hx : a.eval x = xv) (hsrc : Src Tryd.prog 7 51 xv m news w)
    (hbytes : n + m ≤ 1000000) (hbase : B ≤ w.heap.size)
    (h : ∀ v' w', Own w' B 7 v' (n + m) (xs ++ news) → w.grownBy w' v.ownBlock → (n + m ≠ 0 → v' ≠ .slice none 0 0) → K (a.put o.dst v') w') :
    if Region.wanted o (yielded ops a.tmps) = true then Oper.wp Tryd.prog o a w K Q else E := by
  rw [if_pos (by simp [Region.wanted, hgd])]
  obtain ⟨i0, hi, hz0, hz1, hz2⟩ := info_parts infoEnt
  obtain ⟨v', w', hr, h2, h3, h4⟩ := run_append_Own (P := Tryd.prog) B 51 51 o.type 63 i0 _ 7 72 Tryd.underlying51 hi hz0 hz1 hz2 rfl v n xs hown xv m news hsrc (by unfold maxLen; omega) (by omega) hbase
  unfold Oper.wp execOp
  simp only [ho, resolve, invoke, builtin, Sem.run_bind, Sem.run_pure, Result.andThen_ok, List.map_toArray, List.map_cons, List.map_nil, hs, hx, hr]
  exact h _ _ h2 h3 h4
theorem Own.ents {w : World} {B : Nat} {v : Value} {l : List Ent} (h : Own w B 7 v l.length (cellsE l)) : ∃ ao cap lb lo, v = .slice ao l.length cap ∧ EntsAt w ao lb lo l ∧ l.length ≤ cap := by
  rcases h.2 with ⟨rfl, h0⟩ | ⟨g, o, cap, rfl, _, hgs, hcp, _, hr, _⟩
  · have hl : l = [] := List.eq_nil_of_length_eq_zero h0
    subst hl
    exact ⟨none, 0, 0, 0, rfl, ⟨fun h => by simp at h, fun i e he => by simp at he⟩, Nat.le_refl _⟩
  · exact ⟨some ⟨g, o, none⟩, cap, g, o, rfl, EntsAt.of_cells (fun _ => hgs) (fun j u hj => hr j u hj), hcp⟩
/-- The box of the new entry: seven cells of a block, free to be written. -/
structure Box7 (w : World) (n : Nat) (h q d : Int) (p b : ByteArray) (r s : Int) : Prop where
  lt : n < w.heap.size
  at_ : At7 w n h q d p b r s
  free : w.there n 0 7
theorem Box7.step {w w' : World} {n : Nat} {h q d : Int} {p b : ByteArray} {r s : Int} (H : Box7 w n h q d p b r s) (hb : Below w.heap.size w w') : Box7 w' n h q d p b r s :=
  ⟨Nat.lt_of_lt_of_le H.lt hb.size, keep7 H.lt hb H.at_, there_below H.free hb H.lt⟩
theorem Box7.new (w : World) (h q d : Int) (p b : ByteArray) (r s : Int) (t : TypeId) : Box7 (w.alloc (.cells #[.int .i64 h, .int .i64 q, .int .i64 d, .string p, .string b, .int .i64 r, .int .i64 s] t)) w.heap.size h q d p b r s :=
  ⟨by simp, new7 w h q d p b r s t, there_new w _ t 7 (by simp)⟩
theorem Box7.set3 {w : World} {n : Nat} {h q d : Int} {p b : ByteArray} {r s : Int} (H : Box7 w n h q d p b r s) (p' : ByteArray) : Box7 (w.setCell ⟨n, 3, none⟩ (.string p')) n h q d p' b r s := by
  obtain ⟨c0, c1, c2, c3, c4, c5, c6⟩ := H.at_
  have h3 := (H.free 3 (by omega)).1
  rw [Nat.zero_add] at h3
  have o : ∀ j v, j ≠ 3 → w.cell? ⟨n, j, none⟩ = some v → (w.setCell ⟨n, 3, none⟩ (.string p')).cell? ⟨n, j, none⟩ = some v := fun j v hj hc => (World.cell?_setCell_other _ _ _ _ (fun e => hj (by injection e with _ e2 _; exact e2.symm))).trans hc
  exact ⟨by simpa [World.setCell] using H.lt, ⟨o 0 _ (by decide) c0, o 1 _ (by decide) c1, o 2 _ (by decide) c2, World.cell?_setCell_same' _ _ _ h3, o 4 _ (by decide) c4, o 5 _ (by decide) c5, o 6 _ (by decide) c6⟩, there_setCell H.free _ _⟩
theorem Box7.set56 {w : World} {n : Nat} {h q d : Int} {p b : ByteArray} {r s : Int} (H : Box7 w n h q d p b r s) (r' s' : Int) : Box7 ((w.setCell ⟨n, 5, none⟩ (.int .i64 r')).setCell ⟨n, 6, none⟩ (.int .i64 s')) n h q d p b r' s' := by
  obtain ⟨c0, c1, c2, c3, c4, c5, c6⟩ := H.at_
  have h5 := (H.free 5 (by omega)).1
  have h6 := (H.free 6 (by omega)).1
  rw [Nat.zero_add] at h5 h6
  have o : ∀ j v, j ≠ 5 → j ≠ 6 → w.cell? ⟨n, j, none⟩ = some v → ((w.setCell ⟨n, 5, none⟩ (.int .i64 r')).setCell ⟨n, 6, none⟩ (.int .i64 s')).cell? ⟨n, j, none⟩ = some v := fun j v hj hj' hc => (World.cell?_setCell_other _ _ _ _ (fun e => hj' (by injection e with _ e2 _; exact e2.symm))).trans ((World.cell?_setCell_other _ _ _ _ (fun e => hj (by injection e with _ e2 _; exact e2.symm))).trans hc)
  exact ⟨by simpa [World.setCell] using H.lt, ⟨o 0 _ (by decide) (by decide) c0, o 1 _ (by decide) (by decide) c1, o 2 _ (by decide) (by decide) c2, o 3 _ (by decide) (by decide) c3, o 4 _ (by decide) (by decide) c4, (World.cell?_setCell_other _ _ _ _ (by simp)).trans (World.cell?_setCell_same' _ _ _ h5), World.cell?_setCell_same' _ _ _ (isSome_setCell h6)⟩, there_setCell (there_setCell H.free _ _) _ _⟩
theorem val_keep {w w' : World} {a : Addr} (h : w'.cell? a = w.cell? a) (H : w.cell? a = some (valAt w a)) : w'.cell? a = some (valAt w' a) := by
  unfold valAt at *; rw [h]; exact H
theorem Trk.set {w0 w : World} (h : Trk w0 w) (ht : Tabs w0) {a : Addr} (ha : w0.heap.size ≤ a.block) (v : Value) : Trk w0 (w.setCell a v) :=
  ⟨ht.below (h.bel.setCell ha v) (Nat.le_refl _), h.bel.setCell ha v⟩
theorem keepA_below {w2 w w' : World} {n o x : Nat} {h q d : Int} {p b : ByteArray} {r s : Int} (l1 : n < w2.heap.size) (l2 : x < w2.heap.size) (hb : Below w.heap.size w w') (H : w.cell? ⟨n, o, none⟩ = some (.int .i64 h) ∧ w.cell? ⟨n, o + 1, none⟩ = some (.int .i64 q) ∧ w.cell? ⟨n, o + 2, none⟩ = some (.int .i64 d) ∧ w.cell? ⟨n, o + 3, none⟩ = some (.string p) ∧ w.cell? ⟨n, o + 4, none⟩ = some (.string b) ∧ w.cell? ⟨n, o + 5, none⟩ = some (.int .i64 r) ∧ w.cell? ⟨n, o + 6, none⟩ = some (.int .i64 s) ∧ w.cell? ⟨x, 3, none⟩ = some (valAt w ⟨x, 3, none⟩) ∧ w.frozen? ⟨x, 3, none⟩ = false ∧ w2.heap.size ≤ w.heap.size) : w'.cell? ⟨n, o, none⟩ = some (.int .i64 h) ∧ w'.cell? ⟨n, o + 1, none⟩ = some (.int .i64 q) ∧ w'.cell? ⟨n, o + 2, none⟩ = some (.int .i64 d) ∧ w'.cell? ⟨n, o + 3, none⟩ = some (.string p) ∧ w'.cell? ⟨n, o + 4, none⟩ = some (.string b) ∧ w'.cell? ⟨n, o + 5, none⟩ = some (.int .i64 r) ∧ w'.cell? ⟨n, o + 6, none⟩ = some (.int .i64 s) ∧ w'.cell? ⟨x, 3, none⟩ = some (valAt w' ⟨x, 3, none⟩) ∧ w'.frozen? ⟨x, 3, none⟩ = false ∧ w2.heap.size ≤ w'.heap.size :=
  have hz : w2.heap.size ≤ w.heap.size := H.2.2.2.2.2.2.2.2.2
  have k1 : n < w.heap.size := by omega
  have k2 : x < w.heap.size := by omega
  ⟨(hb.cell (p := ⟨n, o, none⟩) k1).trans H.1, (hb.cell (p := ⟨n, o + 1, none⟩) k1).trans H.2.1, (hb.cell (p := ⟨n, o + 2, none⟩) k1).trans H.2.2.1, (hb.cell (p := ⟨n, o + 3, none⟩) k1).trans H.2.2.2.1, (hb.cell (p := ⟨n, o + 4, none⟩) k1).trans H.2.2.2.2.1, (hb.cell (p := ⟨n, o + 5, none⟩) k1).trans H.2.2.2.2.2.1, (hb.cell (p := ⟨n, o + 6, none⟩) k1).trans H.2.2.2.2.2.2.1, val_keep (hb.cell (p := ⟨x, 3, none⟩) k2) H.2.2.2.2.2.2.2.1, (hb.frozen (p := ⟨x, 3, none⟩) k2).trans H.2.2.2.2.2.2.2.2.1, Nat.le_trans H.2.2.2.2.2.2.2.2.2 hb.size⟩
theorem keepA_set {w2 w : World} {n o x : Nat} {h q d : Int} {p b : ByteArray} {r s : Int} {a : Addr} {v : Value} (ha : a.block ≠ n) (H : w.cell? ⟨n, o, none⟩ = some (.int .i64 h) ∧ w.cell? ⟨n, o + 1, none⟩ = some (.int .i64 q) ∧ w.cell? ⟨n, o + 2, none⟩ = some (.int .i64 d) ∧ w.cell? ⟨n, o + 3, none⟩ = some (.string p) ∧ w.cell? ⟨n, o + 4, none⟩ = some (.string b) ∧ w.cell? ⟨n, o + 5, none⟩ = some (.int .i64 r) ∧ w.cell? ⟨n, o + 6, none⟩ = some (.int .i64 s) ∧ w.cell? ⟨x, 3, none⟩ = some (valAt w ⟨x, 3, none⟩) ∧ w.frozen? ⟨x, 3, none⟩ = false ∧ w2.heap.size ≤ w.heap.size) : (w.setCell a v).cell? ⟨n, o, none⟩ = some (.int .i64 h) ∧ (w.setCell a v).cell? ⟨n, o + 1, none⟩ = some (.int .i64 q) ∧ (w.setCell a v).cell? ⟨n, o + 2, none⟩ = some (.int .i64 d) ∧ (w.setCell a v).cell? ⟨n, o + 3, none⟩ = some (.string p) ∧ (w.setCell a v).cell? ⟨n, o + 4, none⟩ = some (.string b) ∧ (w.setCell a v).cell? ⟨n, o + 5, none⟩ = some (.int .i64 r) ∧ (w.setCell a v).cell? ⟨n, o + 6, none⟩ = some (.int .i64 s) ∧ (w.setCell a v).cell? ⟨x, 3, none⟩ = some (valAt (w.setCell a v) ⟨x, 3, none⟩) ∧ (w.setCell a v).frozen? ⟨x, 3, none⟩ = false ∧ w2.heap.size ≤ (w.setCell a v).heap.size :=
  ⟨(World.cell?_setCell_other w a ⟨n, o, none⟩ v (fun e => ha (by rw [e]))).trans H.1, (World.cell?_setCell_other w a ⟨n, o + 1, none⟩ v (fun e => ha (by rw [e]))).trans H.2.1, (World.cell?_setCell_other w a ⟨n, o + 2, none⟩ v (fun e => ha (by rw [e]))).trans H.2.2.1, (World.cell?_setCell_other w a ⟨n, o + 3, none⟩ v (fun e => ha (by rw [e]))).trans H.2.2.2.1, (World.cell?_setCell_other w a ⟨n, o + 4, none⟩ v (fun e => ha (by rw [e]))).trans H.2.2.2.2.1, (World.cell?_setCell_other w a ⟨n, o + 5, none⟩ v (fun e => ha (by rw [e]))).trans H.2.2.2.2.2.1, (World.cell?_setCell_other w a ⟨n, o + 6, none⟩ v (fun e => ha (by rw [e]))).trans H.2.2.2.2.2.2.1, valAt_of (isSome_setCell (isSome_of H.2.2.2.2.2.2.2.1)), (World.frozen?_setCell _ _ _ _).trans H.2.2.2.2.2.2.2.2.1, by have := H.2.2.2.2.2.2.2.2.2; simpa [World.setCell] using this⟩
theorem keepA_drew {w2 w : World} {n o x : Nat} {h q d : Int} {p b : ByteArray} {r s : Int} (l1 : n < w2.heap.size) (l2 : x < w2.heap.size) (H : w.cell? ⟨n, o, none⟩ = some (.int .i64 h) ∧ w.cell? ⟨n, o + 1, none⟩ = some (.int .i64 q) ∧ w.cell? ⟨n, o + 2, none⟩ = some (.int .i64 d) ∧ w.cell? ⟨n, o + 3, none⟩ = some (.string p) ∧ w.cell? ⟨n, o + 4, none⟩ = some (.string b) ∧ w.cell? ⟨n, o + 5, none⟩ = some (.int .i64 r) ∧ w.cell? ⟨n, o + 6, none⟩ = some (.int .i64 s) ∧ w.cell? ⟨x, 3, none⟩ = some (valAt w ⟨x, 3, none⟩) ∧ w.frozen? ⟨x, 3, none⟩ = false ∧ w2.heap.size ≤ w.heap.size) : w.drew.cell? ⟨n, o, none⟩ = some (.int .i64 h) ∧ w.drew.cell? ⟨n, o + 1, none⟩ = some (.int .i64 q) ∧ w.drew.cell? ⟨n, o + 2, none⟩ = some (.int .i64 d) ∧ w.drew.cell? ⟨n, o + 3, none⟩ = some (.string p) ∧ w.drew.cell? ⟨n, o + 4, none⟩ = some (.string b) ∧ w.drew.cell? ⟨n, o + 5, none⟩ = some (.int .i64 r) ∧ w.drew.cell? ⟨n, o + 6, none⟩ = some (.int .i64 s) ∧ w.drew.cell? ⟨x, 3, none⟩ = some (valAt w.drew ⟨x, 3, none⟩) ∧ w.drew.frozen? ⟨x, 3, none⟩ = false ∧ w2.heap.size ≤ w.drew.heap.size := keepA_below l1 l2 (drewN_below w 1) H
/-- What chain.Append returns where nothing is wrong: the list m. -/
def AppPost (w : World) (m : List Ent) (e : Ending) (w' : World) : Prop :=
  ∃ ao c lb lo, e = .returned (.tuple #[.slice ao m.length c, .int .i64 0]) ∧ EntsAt w' ao lb lo m ∧ Below w.heap.size w w' ∧ m.length ≤ c
theorem ent_grown {w0 w w' : World} {n0 : Nat} {h q d : Int} {p b : ByteArray} {r s : Int} {row : Option Nat} (ht0 : Tabs w0) (l0 : n0 < w0.heap.size) (hg : w.grownBy w' row) (hr : ∀ g, row = some g → w0.heap.size ≤ g) (H : w.cell? ⟨n0, 0, none⟩ = some (.int .i64 h) ∧ w.cell? ⟨n0, 1, none⟩ = some (.int .i64 q) ∧ w.cell? ⟨n0, 2, none⟩ = some (.int .i64 d) ∧ w.cell? ⟨n0, 3, none⟩ = some (.string p) ∧ w.cell? ⟨n0, 4, none⟩ = some (.string b) ∧ w.cell? ⟨n0, 5, none⟩ = some (.int .i64 r) ∧ w.cell? ⟨n0, 6, none⟩ = some (.int .i64 s) ∧ Trk w0 w) : w'.cell? ⟨n0, 0, none⟩ = some (.int .i64 h) ∧ w'.cell? ⟨n0, 1, none⟩ = some (.int .i64 q) ∧ w'.cell? ⟨n0, 2, none⟩ = some (.int .i64 d) ∧ w'.cell? ⟨n0, 3, none⟩ = some (.string p) ∧ w'.cell? ⟨n0, 4, none⟩ = some (.string b) ∧ w'.cell? ⟨n0, 5, none⟩ = some (.int .i64 r) ∧ w'.cell? ⟨n0, 6, none⟩ = some (.int .i64 s) ∧ Trk w0 w' := by
  have T := H.2.2.2.2.2.2.2
  have hz := T.bel.size
  have hbel : Below w0.heap.size w0 w' := T.bel.grown hg hz hr
  have hne : some n0 ≠ row := fun e => by have := hr n0 e.symm; omega
  have hc : ∀ i, w'.cell? ⟨n0, i, none⟩ = w.cell? ⟨n0, i, none⟩ := fun i => World.cell?_of_block (hg.block n0 (by omega) hne)
  exact ⟨(hc 0).trans H.1, (hc 1).trans H.2.1, (hc 2).trans H.2.2.1, (hc 3).trans H.2.2.2.1, (hc 4).trans H.2.2.2.2.1, (hc 5).trans H.2.2.2.2.2.1, (hc 6).trans H.2.2.2.2.2.2.1, ⟨ht0.below hbel (Nat.le_refl _), hbel⟩⟩
theorem src_range {w : World} {g c : Nat} {cs : List Value} (h : w.rangeAt g 0 cs) (hl : cs.length = 7) (h1 : ∀ u ∈ cs, u.oneCell' = true) : Src Tryd.prog 7 51 (.slice (some ⟨g, 0, none⟩) 1 c) 1 cs w :=
  Src.ofSlice w Tryd.underlying51 ⟨g, 0, none⟩ 1 c cs hl (fun j u hj => by rw [Addr.add_mid]; exact h j u hj) h1

abbrev AppArgs (ao : Option Addr) (n c : Nat) (ho x day : Int) (body : ByteArray) : Array Value := #[.slice ao n c, .int .i64 ho, .int .i64 x, .int .i64 day, .string body]
set_option maxHeartbeats 1000000 in
theorem App_pub (v : Value) (ho x day : Int) (body : ByteArray) (w : World) (hP : ∀ w, Calls Tryd.prog 47 #[.int .i64 x] w fun e w' => e = .returned (.tuple #[.int .i64 0, .int .i64 1]) ∧ w = w') :
    Calls Tryd.prog 40 #[v, .int .i64 ho, .int .i64 x, .int .i64 day, .string body] w fun e w' => e = .returned (.tuple #[.slice none 0 0, .int .i64 1]) ∧ Below w.heap.size w w' := by
  have HP := Lib.hid hP
  clear hP
  go_enter Tryd.func40, Tryd.ntmps40
  go_wp2_with fail
  refine (HP.out _).mono ?_
  rintro e wx ⟨rfl, rfl⟩
  go_wp2_with fail
  go_ret2
  exact ⟨rfl, Below.refl _ _⟩
set_option maxHeartbeats 1000000 in
theorem App_chk (v : Value) (ho x y day c at' : Int) (body : ByteArray) (w : World) (hc : (c == 0) = false) (hP : ∀ w, Calls Tryd.prog 47 #[.int .i64 x] w fun e w' => e = .returned (.tuple #[.int .i64 y, .int .i64 0]) ∧ w = w')
    (hC : Calls Tryd.prog 38 #[v, .int .i64 ho, .int .i64 y] w fun e w' => e = .returned (.tuple #[.int .i64 c, .int .i64 at']) ∧ Below w.heap.size w w') :
    Calls Tryd.prog 40 #[v, .int .i64 ho, .int .i64 x, .int .i64 day, .string body] w fun e w' => e = .returned (.tuple #[.slice none 0 0, .int .i64 c]) ∧ Below w.heap.size w w' := by
  have HP := Lib.hid hP
  have HC := Lib.hid hC
  have hc2 : (c != 0) = true := by simp only [bne, hc]; rfl
  clear hP hC
  go_enter Tryd.func40, Tryd.ntmps40
  go_wp2_with fail
  refine (HP.out _).mono ?_
  rintro e wx ⟨rfl, rfl⟩
  go_wp2_with fail
  refine HC.out.mono ?_
  rintro e w1 ⟨rfl, hb⟩
  have HB := Lib.hid hb
  clear hb
  go_wp2_with fail
  go_ret2
  exact ⟨rfl, HB.out⟩
set_option maxHeartbeats 4000000 in
set_option maxRecDepth 100000 in
theorem App_n_size (ao : Option Addr) (k c : Nat) (ho x y day at' : Int) (body : ByteArray) (w : World) (ht : Tabs w) (hbs : body.size ≤ 40000) (lb lo : Nat) (e : Ent) (hk : k < 100) (hlb : lb < w.heap.size) (ha : ao = some ⟨lb, lo, none⟩) (he : AtE w lb (lo + k * 7) e) (hok : e.Ok)
    (hP : ∀ w, Calls Tryd.prog 47 #[.int .i64 x] w fun e w' => e = .returned (.tuple #[.int .i64 y, .int .i64 0]) ∧ w = w')
    (hC : Calls Tryd.prog 38 #[.slice ao (k + 1) c, .int .i64 ho, .int .i64 y] w fun e w' => e = .returned (.tuple #[.int .i64 0, .int .i64 at']) ∧ Below w.heap.size w w')
    (q1 : ¬ body.size ≤ 2000) :
    Calls Tryd.prog 40 #[.slice ao (k + 1) c, .int .i64 ho, .int .i64 x, .int .i64 day, .string body] w fun e' w' => e' = .returned (.tuple #[.slice none 0 0, .int .i64 3]) ∧ Below w.heap.size w w' := by
  have HP := Lib.hid hP
  have HC := Lib.hid hC
  have HT0 := Lib.hid (Trk.start ht)
  have HTT := Lib.hid ht
  clear hP hC ht
  subst ha
  have HE := Lib.hid he
  have HL := Lib.hid (fun w ht => link_raw e.house e.seq e.day e.prev e.body e.r e.s w hok.house hok.seq hok.day hok.r hok.s hok.prev hok.body ht)
  clear he hok
  go_enter Tryd.func40, Tryd.ntmps40
  go_wp2_with fail
  refine (HP.out _).mono ?_
  rintro e' wx ⟨rfl, rfl⟩
  go_wp2_with fail
  refine HC.out.mono ?_
  rintro e' w1 ⟨rfl, hb⟩
  have HT1 := Lib.hid (HT0.out.step hb)
  have he1 : AtE w1 lb (lo + k * 7) e := by
    obtain ⟨c0, c1, c2, c3, c4, c5, c6⟩ := HE.out
    exact ⟨(hb.cell (p := ⟨lb, lo + k * 7, none⟩) hlb).trans c0, (hb.cell (p := ⟨lb, lo + k * 7 + 1, none⟩) hlb).trans c1, (hb.cell (p := ⟨lb, lo + k * 7 + 2, none⟩) hlb).trans c2, (hb.cell (p := ⟨lb, lo + k * 7 + 3, none⟩) hlb).trans c3, (hb.cell (p := ⟨lb, lo + k * 7 + 4, none⟩) hlb).trans c4, (hb.cell (p := ⟨lb, lo + k * 7 + 5, none⟩) hlb).trans c5, (hb.cell (p := ⟨lb, lo + k * 7 + 6, none⟩) hlb).trans c6⟩
  have hlb1 : lb < w1.heap.size := Nat.lt_of_lt_of_le hlb hb.size
  clear hb
  go_wp2_with fail
  have HX := Lib.hid (Box7.new w1 ho ((k : Int) + 1) day ⟨#[]⟩ body 0 0 63)
  have HT2 := Lib.hid (HT1.out.alloc (.cells #[.int .i64 ho, .int .i64 ((k : Int) + 1), .int .i64 day, .string ⟨#[]⟩, .string body, .int .i64 0, .int .i64 0] 63))
  have hnx : w.heap.size ≤ w1.heap.size := HT1.out.bel.size
  have he2 : AtE (w1.alloc (.cells #[.int .i64 ho, .int .i64 ((k : Int) + 1), .int .i64 day, .string ⟨#[]⟩, .string body, .int .i64 0, .int .i64 0] 63)) lb (lo + k * 7) e := by
    have hb := alloc_below w1 (.cells #[.int .i64 ho, .int .i64 ((k : Int) + 1), .int .i64 day, .string ⟨#[]⟩, .string body, .int .i64 0, .int .i64 0] 63)
    obtain ⟨c0, c1, c2, c3, c4, c5, c6⟩ := he1
    exact ⟨(hb.cell (p := ⟨lb, lo + k * 7, none⟩) hlb1).trans c0, (hb.cell (p := ⟨lb, lo + k * 7 + 1, none⟩) hlb1).trans c1, (hb.cell (p := ⟨lb, lo + k * 7 + 2, none⟩) hlb1).trans c2, (hb.cell (p := ⟨lb, lo + k * 7 + 3, none⟩) hlb1).trans c3, (hb.cell (p := ⟨lb, lo + k * 7 + 4, none⟩) hlb1).trans c4, (hb.cell (p := ⟨lb, lo + k * 7 + 5, none⟩) hlb1).trans c5, (hb.cell (p := ⟨lb, lo + k * 7 + 6, none⟩) hlb1).trans c6⟩
  have hlb2 : lb < (w1.alloc (.cells #[.int .i64 ho, .int .i64 ((k : Int) + 1), .int .i64 day, .string ⟨#[]⟩, .string body, .int .i64 0, .int .i64 0] 63)).heap.size := by simp; omega
  have hnl : lb < w1.heap.size := hlb1
  clear he1 hlb1
  generalize w1.alloc (.cells #[.int .i64 ho, .int .i64 ((k : Int) + 1), .int .i64 day, .string ⟨#[]⟩, .string body, .int .i64 0, .int .i64 0] 63) = w2 at *
  generalize w1.heap.size = nx at *
  obtain ⟨c0, c1, c2, c3, c4, c5, c6⟩ := he2
  obtain ⟨_, _, _, x3, _, _, _⟩ := HX.out.at_
  have z3 := (HX.out.free 3 (by omega)).2
  rw [Nat.zero_add] at z3
  have hlx := HX.out.lt
  have hne : nx ≠ lb := by omega
  have i1 : IntKind.i64.wrap ((k : Int) + 1 - 1) = (k : Int) := by rw [IntKind.wrap_i64]; omega
  have i4 : IntKind.i64.wrap (k : Int) = (k : Int) := by rw [IntKind.wrap_i64]; omega
  have i2 : (0 : Int) ≤ (k : Int) := by omega
  have i3 : (k : Int) < (k : Int) + 1 := by omega
  have i5 : k < k + 1 := by omega
  have HS : Hid (w2.cell? ⟨lb, lo + k * 7, none⟩ = some (.int .i64 e.house) ∧ w2.cell? ⟨lb, lo + k * 7 + 1, none⟩ = some (.int .i64 e.seq) ∧ w2.cell? ⟨lb, lo + k * 7 + 2, none⟩ = some (.int .i64 e.day) ∧ w2.cell? ⟨lb, lo + k * 7 + 3, none⟩ = some (.string e.prev) ∧ w2.cell? ⟨lb, lo + k * 7 + 4, none⟩ = some (.string e.body) ∧ w2.cell? ⟨lb, lo + k * 7 + 5, none⟩ = some (.int .i64 e.r) ∧ w2.cell? ⟨lb, lo + k * 7 + 6, none⟩ = some (.int .i64 e.s) ∧ w2.cell? ⟨nx, 3, none⟩ = some (valAt w2 ⟨nx, 3, none⟩) ∧ w2.frozen? ⟨nx, 3, none⟩ = false ∧ w2.heap.size ≤ w2.heap.size) := Lib.hid ⟨c0, c1, c2, c3, c4, c5, c6, valAt_of (by rw [x3]; rfl), z3, Nat.le_refl _⟩
  clear c0 c1 c2 c3 c4 c5 c6 x3 z3
  go_region_held_law (fun w' => w'.cell? ⟨lb, lo + k * 7, none⟩ = some (.int .i64 e.house) ∧ w'.cell? ⟨lb, lo + k * 7 + 1, none⟩ = some (.int .i64 e.seq) ∧ w'.cell? ⟨lb, lo + k * 7 + 2, none⟩ = some (.int .i64 e.day) ∧ w'.cell? ⟨lb, lo + k * 7 + 3, none⟩ = some (.string e.prev) ∧ w'.cell? ⟨lb, lo + k * 7 + 4, none⟩ = some (.string e.body) ∧ w'.cell? ⟨lb, lo + k * 7 + 5, none⟩ = some (.int .i64 e.r) ∧ w'.cell? ⟨lb, lo + k * 7 + 6, none⟩ = some (.int .i64 e.s) ∧ w'.cell? ⟨nx, 3, none⟩ = some (valAt w' ⟨nx, 3, none⟩) ∧ w'.frozen? ⟨nx, 3, none⟩ = false ∧ w2.heap.size ≤ w'.heap.size) (first | ((first | with_reducible refine keepA_drew hlb2 hlx ?_ | skip); (repeat (with_reducible refine keepA_set hne ?_)); (first | (with_reducible assumption) | (with_reducible exact HS.out) | (with_reducible refine keepA_below hlb2 hlx hbl ?_; with_reducible assumption))) | (trace_state; sorry)) ((go_at_call 73; refine (HL.out _ (by repeat (first | exact HT2.out.tabs | apply Tabs.drew))).mono ?_; rintro e' wl ⟨rfl, hbl⟩))
  have hb3 : Below w2.heap.size w2 wl := ⟨hbl.os, hbl.tape, hbl.output, hbl.size, hbl.block⟩
  have HX3 := Lib.hid ((HX.out.step hb3).set3 (digE e.house e.seq e.day e.prev e.body e.r e.s))
  have HT3 := Lib.hid ((HT2.out.step hb3).set HTT.out (a := ⟨nx, 3, none⟩) hnx (.string (digE e.house e.seq e.day e.prev e.body e.r e.s)))
  clear hbl hb3 HX HT2
  generalize wl.setCell ⟨nx, 3, none⟩ (.string (digE e.house e.seq e.day e.prev e.body e.r e.s)) = w3 at *
  obtain ⟨x0, x1, x2, x3, x4, x5, x6⟩ := HX3.out.at_
  have hval : valAt w3 ⟨nx, 3, none⟩ = .string (digE e.house e.seq e.day e.prev e.body e.r e.s) := by unfold valAt; rw [x3]; rfl
  have i7 : ¬ (4000 : Int) ≤ (k : Int) + 1 := by omega
  clear i1 i2 i3 i4 i5
  have q1' : (2000 : Int) < (body.size : Int) := by omega
  have q1'' : 2000 < body.size := by omega
  clear q1
  go_wp2_with fail
  go_ret2
  exact ⟨rfl, HT3.out.bel⟩
set_option maxHeartbeats 4000000 in
set_option maxRecDepth 100000 in
theorem App_n_day (ao : Option Addr) (k c : Nat) (ho x y day at' : Int) (body : ByteArray) (w : World) (ht : Tabs w) (hbs : body.size ≤ 40000) (lb lo : Nat) (e : Ent) (hk : k < 100) (hlb : lb < w.heap.size) (ha : ao = some ⟨lb, lo, none⟩) (he : AtE w lb (lo + k * 7) e) (hok : e.Ok)
    (hP : ∀ w, Calls Tryd.prog 47 #[.int .i64 x] w fun e w' => e = .returned (.tuple #[.int .i64 y, .int .i64 0]) ∧ w = w')
    (hC : Calls Tryd.prog 38 #[.slice ao (k + 1) c, .int .i64 ho, .int .i64 y] w fun e w' => e = .returned (.tuple #[.int .i64 0, .int .i64 at']) ∧ Below w.heap.size w w')
    (q1 : body.size ≤ 2000) (q2 : day < 0 ∨ 2000 < day) :
    Calls Tryd.prog 40 #[.slice ao (k + 1) c, .int .i64 ho, .int .i64 x, .int .i64 day, .string body] w fun e' w' => e' = .returned (.tuple #[.slice none 0 0, .int .i64 1]) ∧ Below w.heap.size w w' := by
  have HP := Lib.hid hP
  have HC := Lib.hid hC
  have HT0 := Lib.hid (Trk.start ht)
  have HTT := Lib.hid ht
  clear hP hC ht
  subst ha
  have HE := Lib.hid he
  have HL := Lib.hid (fun w ht => link_raw e.house e.seq e.day e.prev e.body e.r e.s w hok.house hok.seq hok.day hok.r hok.s hok.prev hok.body ht)
  clear he hok
  go_enter Tryd.func40, Tryd.ntmps40
  go_wp2_with fail
  refine (HP.out _).mono ?_
  rintro e' wx ⟨rfl, rfl⟩
  go_wp2_with fail
  refine HC.out.mono ?_
  rintro e' w1 ⟨rfl, hb⟩
  have HT1 := Lib.hid (HT0.out.step hb)
  have he1 : AtE w1 lb (lo + k * 7) e := by
    obtain ⟨c0, c1, c2, c3, c4, c5, c6⟩ := HE.out
    exact ⟨(hb.cell (p := ⟨lb, lo + k * 7, none⟩) hlb).trans c0, (hb.cell (p := ⟨lb, lo + k * 7 + 1, none⟩) hlb).trans c1, (hb.cell (p := ⟨lb, lo + k * 7 + 2, none⟩) hlb).trans c2, (hb.cell (p := ⟨lb, lo + k * 7 + 3, none⟩) hlb).trans c3, (hb.cell (p := ⟨lb, lo + k * 7 + 4, none⟩) hlb).trans c4, (hb.cell (p := ⟨lb, lo + k * 7 + 5, none⟩) hlb).trans c5, (hb.cell (p := ⟨lb, lo + k * 7 + 6, none⟩) hlb).trans c6⟩
  have hlb1 : lb < w1.heap.size := Nat.lt_of_lt_of_le hlb hb.size
  clear hb
  go_wp2_with fail
  have HX := Lib.hid (Box7.new w1 ho ((k : Int) + 1) day ⟨#[]⟩ body 0 0 63)
  have HT2 := Lib.hid (HT1.out.alloc (.cells #[.int .i64 ho, .int .i64 ((k : Int) + 1), .int .i64 day, .string ⟨#[]⟩, .string body, .int .i64 0, .int .i64 0] 63))
  have hnx : w.heap.size ≤ w1.heap.size := HT1.out.bel.size
  have he2 : AtE (w1.alloc (.cells #[.int .i64 ho, .int .i64 ((k : Int) + 1), .int .i64 day, .string ⟨#[]⟩, .string body, .int .i64 0, .int .i64 0] 63)) lb (lo + k * 7) e := by
    have hb := alloc_below w1 (.cells #[.int .i64 ho, .int .i64 ((k : Int) + 1), .int .i64 day, .string ⟨#[]⟩, .string body, .int .i64 0, .int .i64 0] 63)
    obtain ⟨c0, c1, c2, c3, c4, c5, c6⟩ := he1
    exact ⟨(hb.cell (p := ⟨lb, lo + k * 7, none⟩) hlb1).trans c0, (hb.cell (p := ⟨lb, lo + k * 7 + 1, none⟩) hlb1).trans c1, (hb.cell (p := ⟨lb, lo + k * 7 + 2, none⟩) hlb1).trans c2, (hb.cell (p := ⟨lb, lo + k * 7 + 3, none⟩) hlb1).trans c3, (hb.cell (p := ⟨lb, lo + k * 7 + 4, none⟩) hlb1).trans c4, (hb.cell (p := ⟨lb, lo + k * 7 + 5, none⟩) hlb1).trans c5, (hb.cell (p := ⟨lb, lo + k * 7 + 6, none⟩) hlb1).trans c6⟩
  have hlb2 : lb < (w1.alloc (.cells #[.int .i64 ho, .int .i64 ((k : Int) + 1), .int .i64 day, .string ⟨#[]⟩, .string body, .int .i64 0, .int .i64 0] 63)).heap.size := by simp; omega
  have hnl : lb < w1.heap.size := hlb1
  clear he1 hlb1
  generalize w1.alloc (.cells #[.int .i64 ho, .int .i64 ((k : Int) + 1), .int .i64 day, .string ⟨#[]⟩, .string body, .int .i64 0, .int .i64 0] 63) = w2 at *
  generalize w1.heap.size = nx at *
  obtain ⟨c0, c1, c2, c3, c4, c5, c6⟩ := he2
  obtain ⟨_, _, _, x3, _, _, _⟩ := HX.out.at_
  have z3 := (HX.out.free 3 (by omega)).2
  rw [Nat.zero_add] at z3
  have hlx := HX.out.lt
  have hne : nx ≠ lb := by omega
  have i1 : IntKind.i64.wrap ((k : Int) + 1 - 1) = (k : Int) := by rw [IntKind.wrap_i64]; omega
  have i4 : IntKind.i64.wrap (k : Int) = (k : Int) := by rw [IntKind.wrap_i64]; omega
  have i2 : (0 : Int) ≤ (k : Int) := by omega
  have i3 : (k : Int) < (k : Int) + 1 := by omega
  have i5 : k < k + 1 := by omega
  have HS : Hid (w2.cell? ⟨lb, lo + k * 7, none⟩ = some (.int .i64 e.house) ∧ w2.cell? ⟨lb, lo + k * 7 + 1, none⟩ = some (.int .i64 e.seq) ∧ w2.cell? ⟨lb, lo + k * 7 + 2, none⟩ = some (.int .i64 e.day) ∧ w2.cell? ⟨lb, lo + k * 7 + 3, none⟩ = some (.string e.prev) ∧ w2.cell? ⟨lb, lo + k * 7 + 4, none⟩ = some (.string e.body) ∧ w2.cell? ⟨lb, lo + k * 7 + 5, none⟩ = some (.int .i64 e.r) ∧ w2.cell? ⟨lb, lo + k * 7 + 6, none⟩ = some (.int .i64 e.s) ∧ w2.cell? ⟨nx, 3, none⟩ = some (valAt w2 ⟨nx, 3, none⟩) ∧ w2.frozen? ⟨nx, 3, none⟩ = false ∧ w2.heap.size ≤ w2.heap.size) := Lib.hid ⟨c0, c1, c2, c3, c4, c5, c6, valAt_of (by rw [x3]; rfl), z3, Nat.le_refl _⟩
  clear c0 c1 c2 c3 c4 c5 c6 x3 z3
  go_region_held_law (fun w' => w'.cell? ⟨lb, lo + k * 7, none⟩ = some (.int .i64 e.house) ∧ w'.cell? ⟨lb, lo + k * 7 + 1, none⟩ = some (.int .i64 e.seq) ∧ w'.cell? ⟨lb, lo + k * 7 + 2, none⟩ = some (.int .i64 e.day) ∧ w'.cell? ⟨lb, lo + k * 7 + 3, none⟩ = some (.string e.prev) ∧ w'.cell? ⟨lb, lo + k * 7 + 4, none⟩ = some (.string e.body) ∧ w'.cell? ⟨lb, lo + k * 7 + 5, none⟩ = some (.int .i64 e.r) ∧ w'.cell? ⟨lb, lo + k * 7 + 6, none⟩ = some (.int .i64 e.s) ∧ w'.cell? ⟨nx, 3, none⟩ = some (valAt w' ⟨nx, 3, none⟩) ∧ w'.frozen? ⟨nx, 3, none⟩ = false ∧ w2.heap.size ≤ w'.heap.size) (first | ((first | with_reducible refine keepA_drew hlb2 hlx ?_ | skip); (repeat (with_reducible refine keepA_set hne ?_)); (first | (with_reducible assumption) | (with_reducible exact HS.out) | (with_reducible refine keepA_below hlb2 hlx hbl ?_; with_reducible assumption))) | (trace_state; sorry)) ((go_at_call 73; refine (HL.out _ (by repeat (first | exact HT2.out.tabs | apply Tabs.drew))).mono ?_; rintro e' wl ⟨rfl, hbl⟩))
  have hb3 : Below w2.heap.size w2 wl := ⟨hbl.os, hbl.tape, hbl.output, hbl.size, hbl.block⟩
  have HX3 := Lib.hid ((HX.out.step hb3).set3 (digE e.house e.seq e.day e.prev e.body e.r e.s))
  have HT3 := Lib.hid ((HT2.out.step hb3).set HTT.out (a := ⟨nx, 3, none⟩) hnx (.string (digE e.house e.seq e.day e.prev e.body e.r e.s)))
  clear hbl hb3 HX HT2
  generalize wl.setCell ⟨nx, 3, none⟩ (.string (digE e.house e.seq e.day e.prev e.body e.r e.s)) = w3 at *
  obtain ⟨x0, x1, x2, x3, x4, x5, x6⟩ := HX3.out.at_
  have hval : valAt w3 ⟨nx, 3, none⟩ = .string (digE e.house e.seq e.day e.prev e.body e.r e.s) := by unfold valAt; rw [x3]; rfl
  have i7 : ¬ (4000 : Int) ≤ (k : Int) + 1 := by omega
  clear i1 i2 i3 i4 i5
  have q1' : ¬ (2000 : Int) < (body.size : Int) := by omega
  have q1'' : ¬ 2000 < body.size := by omega
  clear q1
  rcases q2 with q2 | q2
  · have q4 : ¬ 0 ≤ day := by omega
    go_wp2_with fail
    go_ret2
    exact ⟨rfl, HT3.out.bel⟩
  · have q4 : ¬ day < 0 := by omega
    go_wp2_with fail
    go_ret2
    exact ⟨rfl, HT3.out.bel⟩
set_option maxHeartbeats 4000000 in
set_option maxRecDepth 100000 in
theorem App_n_order (ao : Option Addr) (k c : Nat) (ho x y day at' : Int) (body : ByteArray) (w : World) (ht : Tabs w) (hbs : body.size ≤ 40000) (lb lo : Nat) (e : Ent) (hk : k < 100) (hlb : lb < w.heap.size) (ha : ao = some ⟨lb, lo, none⟩) (he : AtE w lb (lo + k * 7) e) (hok : e.Ok)
    (hP : ∀ w, Calls Tryd.prog 47 #[.int .i64 x] w fun e w' => e = .returned (.tuple #[.int .i64 y, .int .i64 0]) ∧ w = w')
    (hC : Calls Tryd.prog 38 #[.slice ao (k + 1) c, .int .i64 ho, .int .i64 y] w fun e w' => e = .returned (.tuple #[.int .i64 0, .int .i64 at']) ∧ Below w.heap.size w w')
    (q1 : body.size ≤ 2000) (q2 : 0 ≤ day) (q2' : day ≤ 2000) (q3 : day < e.day) :
    Calls Tryd.prog 40 #[.slice ao (k + 1) c, .int .i64 ho, .int .i64 x, .int .i64 day, .string body] w fun e' w' => e' = .returned (.tuple #[.slice none 0 0, .int .i64 15]) ∧ Below w.heap.size w w' := by
  have HP := Lib.hid hP
  have HC := Lib.hid hC
  have HT0 := Lib.hid (Trk.start ht)
  have HTT := Lib.hid ht
  clear hP hC ht
  subst ha
  have HE := Lib.hid he
  have HL := Lib.hid (fun w ht => link_raw e.house e.seq e.day e.prev e.body e.r e.s w hok.house hok.seq hok.day hok.r hok.s hok.prev hok.body ht)
  clear he hok
  go_enter Tryd.func40, Tryd.ntmps40
  go_wp2_with fail
  refine (HP.out _).mono ?_
  rintro e' wx ⟨rfl, rfl⟩
  go_wp2_with fail
  refine HC.out.mono ?_
  rintro e' w1 ⟨rfl, hb⟩
  have HT1 := Lib.hid (HT0.out.step hb)
  have he1 : AtE w1 lb (lo + k * 7) e := by
    obtain ⟨c0, c1, c2, c3, c4, c5, c6⟩ := HE.out
    exact ⟨(hb.cell (p := ⟨lb, lo + k * 7, none⟩) hlb).trans c0, (hb.cell (p := ⟨lb, lo + k * 7 + 1, none⟩) hlb).trans c1, (hb.cell (p := ⟨lb, lo + k * 7 + 2, none⟩) hlb).trans c2, (hb.cell (p := ⟨lb, lo + k * 7 + 3, none⟩) hlb).trans c3, (hb.cell (p := ⟨lb, lo + k * 7 + 4, none⟩) hlb).trans c4, (hb.cell (p := ⟨lb, lo + k * 7 + 5, none⟩) hlb).trans c5, (hb.cell (p := ⟨lb, lo + k * 7 + 6, none⟩) hlb).trans c6⟩
  have hlb1 : lb < w1.heap.size := Nat.lt_of_lt_of_le hlb hb.size
  clear hb
  go_wp2_with fail
  have HX := Lib.hid (Box7.new w1 ho ((k : Int) + 1) day ⟨#[]⟩ body 0 0 63)
  have HT2 := Lib.hid (HT1.out.alloc (.cells #[.int .i64 ho, .int .i64 ((k : Int) + 1), .int .i64 day, .string ⟨#[]⟩, .string body, .int .i64 0, .int .i64 0] 63))
  have hnx : w.heap.size ≤ w1.heap.size := HT1.out.bel.size
  have he2 : AtE (w1.alloc (.cells #[.int .i64 ho, .int .i64 ((k : Int) + 1), .int .i64 day, .string ⟨#[]⟩, .string body, .int .i64 0, .int .i64 0] 63)) lb (lo + k * 7) e := by
    have hb := alloc_below w1 (.cells #[.int .i64 ho, .int .i64 ((k : Int) + 1), .int .i64 day, .string ⟨#[]⟩, .string body, .int .i64 0, .int .i64 0] 63)
    obtain ⟨c0, c1, c2, c3, c4, c5, c6⟩ := he1
    exact ⟨(hb.cell (p := ⟨lb, lo + k * 7, none⟩) hlb1).trans c0, (hb.cell (p := ⟨lb, lo + k * 7 + 1, none⟩) hlb1).trans c1, (hb.cell (p := ⟨lb, lo + k * 7 + 2, none⟩) hlb1).trans c2, (hb.cell (p := ⟨lb, lo + k * 7 + 3, none⟩) hlb1).trans c3, (hb.cell (p := ⟨lb, lo + k * 7 + 4, none⟩) hlb1).trans c4, (hb.cell (p := ⟨lb, lo + k * 7 + 5, none⟩) hlb1).trans c5, (hb.cell (p := ⟨lb, lo + k * 7 + 6, none⟩) hlb1).trans c6⟩
  have hlb2 : lb < (w1.alloc (.cells #[.int .i64 ho, .int .i64 ((k : Int) + 1), .int .i64 day, .string ⟨#[]⟩, .string body, .int .i64 0, .int .i64 0] 63)).heap.size := by simp; omega
  have hnl : lb < w1.heap.size := hlb1
  clear he1 hlb1
  generalize w1.alloc (.cells #[.int .i64 ho, .int .i64 ((k : Int) + 1), .int .i64 day, .string ⟨#[]⟩, .string body, .int .i64 0, .int .i64 0] 63) = w2 at *
  generalize w1.heap.size = nx at *
  obtain ⟨c0, c1, c2, c3, c4, c5, c6⟩ := he2
  obtain ⟨_, _, _, x3, _, _, _⟩ := HX.out.at_
  have z3 := (HX.out.free 3 (by omega)).2
  rw [Nat.zero_add] at z3
  have hlx := HX.out.lt
  have hne : nx ≠ lb := by omega
  have i1 : IntKind.i64.wrap ((k : Int) + 1 - 1) = (k : Int) := by rw [IntKind.wrap_i64]; omega
  have i4 : IntKind.i64.wrap (k : Int) = (k : Int) := by rw [IntKind.wrap_i64]; omega
  have i2 : (0 : Int) ≤ (k : Int) := by omega
  have i3 : (k : Int) < (k : Int) + 1 := by omega
  have i5 : k < k + 1 := by omega
  have HS : Hid (w2.cell? ⟨lb, lo + k * 7, none⟩ = some (.int .i64 e.house) ∧ w2.cell? ⟨lb, lo + k * 7 + 1, none⟩ = some (.int .i64 e.seq) ∧ w2.cell? ⟨lb, lo + k * 7 + 2, none⟩ = some (.int .i64 e.day) ∧ w2.cell? ⟨lb, lo + k * 7 + 3, none⟩ = some (.string e.prev) ∧ w2.cell? ⟨lb, lo + k * 7 + 4, none⟩ = some (.string e.body) ∧ w2.cell? ⟨lb, lo + k * 7 + 5, none⟩ = some (.int .i64 e.r) ∧ w2.cell? ⟨lb, lo + k * 7 + 6, none⟩ = some (.int .i64 e.s) ∧ w2.cell? ⟨nx, 3, none⟩ = some (valAt w2 ⟨nx, 3, none⟩) ∧ w2.frozen? ⟨nx, 3, none⟩ = false ∧ w2.heap.size ≤ w2.heap.size) := Lib.hid ⟨c0, c1, c2, c3, c4, c5, c6, valAt_of (by rw [x3]; rfl), z3, Nat.le_refl _⟩
  clear c0 c1 c2 c3 c4 c5 c6 x3 z3
  go_region_held_law (fun w' => w'.cell? ⟨lb, lo + k * 7, none⟩ = some (.int .i64 e.house) ∧ w'.cell? ⟨lb, lo + k * 7 + 1, none⟩ = some (.int .i64 e.seq) ∧ w'.cell? ⟨lb, lo + k * 7 + 2, none⟩ = some (.int .i64 e.day) ∧ w'.cell? ⟨lb, lo + k * 7 + 3, none⟩ = some (.string e.prev) ∧ w'.cell? ⟨lb, lo + k * 7 + 4, none⟩ = some (.string e.body) ∧ w'.cell? ⟨lb, lo + k * 7 + 5, none⟩ = some (.int .i64 e.r) ∧ w'.cell? ⟨lb, lo + k * 7 + 6, none⟩ = some (.int .i64 e.s) ∧ w'.cell? ⟨nx, 3, none⟩ = some (valAt w' ⟨nx, 3, none⟩) ∧ w'.frozen? ⟨nx, 3, none⟩ = false ∧ w2.heap.size ≤ w'.heap.size) (first | ((first | with_reducible refine keepA_drew hlb2 hlx ?_ | skip); (repeat (with_reducible refine keepA_set hne ?_)); (first | (with_reducible assumption) | (with_reducible exact HS.out) | (with_reducible refine keepA_below hlb2 hlx hbl ?_; with_reducible assumption))) | (trace_state; sorry)) ((go_at_call 73; refine (HL.out _ (by repeat (first | exact HT2.out.tabs | apply Tabs.drew))).mono ?_; rintro e' wl ⟨rfl, hbl⟩))
  have hb3 : Below w2.heap.size w2 wl := ⟨hbl.os, hbl.tape, hbl.output, hbl.size, hbl.block⟩
  have HX3 := Lib.hid ((HX.out.step hb3).set3 (digE e.house e.seq e.day e.prev e.body e.r e.s))
  have HT3 := Lib.hid ((HT2.out.step hb3).set HTT.out (a := ⟨nx, 3, none⟩) hnx (.string (digE e.house e.seq e.day e.prev e.body e.r e.s)))
  clear hbl hb3 HX HT2
  generalize wl.setCell ⟨nx, 3, none⟩ (.string (digE e.house e.seq e.day e.prev e.body e.r e.s)) = w3 at *
  obtain ⟨x0, x1, x2, x3, x4, x5, x6⟩ := HX3.out.at_
  have hval : valAt w3 ⟨nx, 3, none⟩ = .string (digE e.house e.seq e.day e.prev e.body e.r e.s) := by unfold valAt; rw [x3]; rfl
  have i7 : ¬ (4000 : Int) ≤ (k : Int) + 1 := by omega
  clear i1 i2 i3 i4 i5
  have q1' : ¬ (2000 : Int) < (body.size : Int) := by omega
  have q1'' : ¬ 2000 < body.size := by omega
  clear q1
  go_wp2_with fail
  go_ret2
  exact ⟨rfl, HT3.out.bel⟩
set_option maxHeartbeats 4000000 in
set_option maxRecDepth 100000 in
theorem App_n_ok (ao : Option Addr) (k c : Nat) (ho x y day at' : Int) (body : ByteArray) (w : World) (ht : Tabs w) (hbs : body.size ≤ 40000) (lb lo : Nat) (e : Ent) (hk : k < 100) (hlb : lb < w.heap.size) (ha : ao = some ⟨lb, lo, none⟩) (he : AtE w lb (lo + k * 7) e) (hok : e.Ok)
    (hP : ∀ w, Calls Tryd.prog 47 #[.int .i64 x] w fun e w' => e = .returned (.tuple #[.int .i64 y, .int .i64 0]) ∧ w = w')
    (hC : Calls Tryd.prog 38 #[.slice ao (k + 1) c, .int .i64 ho, .int .i64 y] w fun e w' => e = .returned (.tuple #[.int .i64 0, .int .i64 at']) ∧ Below w.heap.size w w')
    (q1 : body.size ≤ 2000) (q2 : 0 ≤ day) (q2' : day ≤ 2000) (q3 : e.day ≤ day) (hho : I64 ho) (R S : Int) (hSG : ∀ w, Tabs w → Calls Tryd.prog 75 #[.int .i64 x, .string (txtE ho ((k : Int) + 1) day (digE e.house e.seq e.day e.prev e.body e.r e.s) body)] w fun e w' => e = .returned (.tuple #[.agg #[.int .i64 R, .int .i64 S], .int .i64 0]) ∧ Below w.heap.size w w') (l : List Ent) (hlen : l.length = k + 1) (hat : EntsAt w ao lb lo l) :
    Calls Tryd.prog 40 #[.slice ao (k + 1) c, .int .i64 ho, .int .i64 x, .int .i64 day, .string body] w fun e' w' => AppPost w (l ++ [⟨ho, ((k : Int) + 1), day, (digE e.house e.seq e.day e.prev e.body e.r e.s), body, R, S⟩]) e' w' := by
  have HP := Lib.hid hP
  have HC := Lib.hid hC
  have HT0 := Lib.hid (Trk.start ht)
  have HTT := Lib.hid ht
  clear hP hC ht
  have HSG := Lib.hid hSG
  have HAT := Lib.hid hat
  clear hSG hat
  have hpv : (digE e.house e.seq e.day e.prev e.body e.r e.s).size ≤ 40000 := by rw [digE_size]; decide
  subst ha
  have HE := Lib.hid he
  have HL := Lib.hid (fun w ht => link_raw e.house e.seq e.day e.prev e.body e.r e.s w hok.house hok.seq hok.day hok.r hok.s hok.prev hok.body ht)
  clear he hok
  go_enter Tryd.func40, Tryd.ntmps40
  go_wp2_with fail
  refine (HP.out _).mono ?_
  rintro e' wx ⟨rfl, rfl⟩
  go_wp2_with fail
  refine HC.out.mono ?_
  rintro e' w1 ⟨rfl, hb⟩
  have HT1 := Lib.hid (HT0.out.step hb)
  have he1 : AtE w1 lb (lo + k * 7) e := by
    obtain ⟨c0, c1, c2, c3, c4, c5, c6⟩ := HE.out
    exact ⟨(hb.cell (p := ⟨lb, lo + k * 7, none⟩) hlb).trans c0, (hb.cell (p := ⟨lb, lo + k * 7 + 1, none⟩) hlb).trans c1, (hb.cell (p := ⟨lb, lo + k * 7 + 2, none⟩) hlb).trans c2, (hb.cell (p := ⟨lb, lo + k * 7 + 3, none⟩) hlb).trans c3, (hb.cell (p := ⟨lb, lo + k * 7 + 4, none⟩) hlb).trans c4, (hb.cell (p := ⟨lb, lo + k * 7 + 5, none⟩) hlb).trans c5, (hb.cell (p := ⟨lb, lo + k * 7 + 6, none⟩) hlb).trans c6⟩
  have hlb1 : lb < w1.heap.size := Nat.lt_of_lt_of_le hlb hb.size
  clear hb
  go_wp2_with fail
  have HX := Lib.hid (Box7.new w1 ho ((k : Int) + 1) day ⟨#[]⟩ body 0 0 63)
  have HT2 := Lib.hid (HT1.out.alloc (.cells #[.int .i64 ho, .int .i64 ((k : Int) + 1), .int .i64 day, .string ⟨#[]⟩, .string body, .int .i64 0, .int .i64 0] 63))
  have hnx : w.heap.size ≤ w1.heap.size := HT1.out.bel.size
  have he2 : AtE (w1.alloc (.cells #[.int .i64 ho, .int .i64 ((k : Int) + 1), .int .i64 day, .string ⟨#[]⟩, .string body, .int .i64 0, .int .i64 0] 63)) lb (lo + k * 7) e := by
    have hb := alloc_below w1 (.cells #[.int .i64 ho, .int .i64 ((k : Int) + 1), .int .i64 day, .string ⟨#[]⟩, .string body, .int .i64 0, .int .i64 0] 63)
    obtain ⟨c0, c1, c2, c3, c4, c5, c6⟩ := he1
    exact ⟨(hb.cell (p := ⟨lb, lo + k * 7, none⟩) hlb1).trans c0, (hb.cell (p := ⟨lb, lo + k * 7 + 1, none⟩) hlb1).trans c1, (hb.cell (p := ⟨lb, lo + k * 7 + 2, none⟩) hlb1).trans c2, (hb.cell (p := ⟨lb, lo + k * 7 + 3, none⟩) hlb1).trans c3, (hb.cell (p := ⟨lb, lo + k * 7 + 4, none⟩) hlb1).trans c4, (hb.cell (p := ⟨lb, lo + k * 7 + 5, none⟩) hlb1).trans c5, (hb.cell (p := ⟨lb, lo + k * 7 + 6, none⟩) hlb1).trans c6⟩
  have hlb2 : lb < (w1.alloc (.cells #[.int .i64 ho, .int .i64 ((k : Int) + 1), .int .i64 day, .string ⟨#[]⟩, .string body, .int .i64 0, .int .i64 0] 63)).heap.size := by simp; omega
  have hnl : lb < w1.heap.size := hlb1
  clear he1 hlb1
  generalize w1.alloc (.cells #[.int .i64 ho, .int .i64 ((k : Int) + 1), .int .i64 day, .string ⟨#[]⟩, .string body, .int .i64 0, .int .i64 0] 63) = w2 at *
  generalize w1.heap.size = nx at *
  obtain ⟨c0, c1, c2, c3, c4, c5, c6⟩ := he2
  obtain ⟨_, _, _, x3, _, _, _⟩ := HX.out.at_
  have z3 := (HX.out.free 3 (by omega)).2
  rw [Nat.zero_add] at z3
  have hlx := HX.out.lt
  have hne : nx ≠ lb := by omega
  have i1 : IntKind.i64.wrap ((k : Int) + 1 - 1) = (k : Int) := by rw [IntKind.wrap_i64]; omega
  have i4 : IntKind.i64.wrap (k : Int) = (k : Int) := by rw [IntKind.wrap_i64]; omega
  have i2 : (0 : Int) ≤ (k : Int) := by omega
  have i3 : (k : Int) < (k : Int) + 1 := by omega
  have i5 : k < k + 1 := by omega
  have HS : Hid (w2.cell? ⟨lb, lo + k * 7, none⟩ = some (.int .i64 e.house) ∧ w2.cell? ⟨lb, lo + k * 7 + 1, none⟩ = some (.int .i64 e.seq) ∧ w2.cell? ⟨lb, lo + k * 7 + 2, none⟩ = some (.int .i64 e.day) ∧ w2.cell? ⟨lb, lo + k * 7 + 3, none⟩ = some (.string e.prev) ∧ w2.cell? ⟨lb, lo + k * 7 + 4, none⟩ = some (.string e.body) ∧ w2.cell? ⟨lb, lo + k * 7 + 5, none⟩ = some (.int .i64 e.r) ∧ w2.cell? ⟨lb, lo + k * 7 + 6, none⟩ = some (.int .i64 e.s) ∧ w2.cell? ⟨nx, 3, none⟩ = some (valAt w2 ⟨nx, 3, none⟩) ∧ w2.frozen? ⟨nx, 3, none⟩ = false ∧ w2.heap.size ≤ w2.heap.size) := Lib.hid ⟨c0, c1, c2, c3, c4, c5, c6, valAt_of (by rw [x3]; rfl), z3, Nat.le_refl _⟩
  clear c0 c1 c2 c3 c4 c5 c6 x3 z3
  go_region_held_law (fun w' => w'.cell? ⟨lb, lo + k * 7, none⟩ = some (.int .i64 e.house) ∧ w'.cell? ⟨lb, lo + k * 7 + 1, none⟩ = some (.int .i64 e.seq) ∧ w'.cell? ⟨lb, lo + k * 7 + 2, none⟩ = some (.int .i64 e.day) ∧ w'.cell? ⟨lb, lo + k * 7 + 3, none⟩ = some (.string e.prev) ∧ w'.cell? ⟨lb, lo + k * 7 + 4, none⟩ = some (.string e.body) ∧ w'.cell? ⟨lb, lo + k * 7 + 5, none⟩ = some (.int .i64 e.r) ∧ w'.cell? ⟨lb, lo + k * 7 + 6, none⟩ = some (.int .i64 e.s) ∧ w'.cell? ⟨nx, 3, none⟩ = some (valAt w' ⟨nx, 3, none⟩) ∧ w'.frozen? ⟨nx, 3, none⟩ = false ∧ w2.heap.size ≤ w'.heap.size) (first | ((first | with_reducible refine keepA_drew hlb2 hlx ?_ | skip); (repeat (with_reducible refine keepA_set hne ?_)); (first | (with_reducible assumption) | (with_reducible exact HS.out) | (with_reducible refine keepA_below hlb2 hlx hbl ?_; with_reducible assumption))) | (trace_state; sorry)) ((go_at_call 73; refine (HL.out _ (by repeat (first | exact HT2.out.tabs | apply Tabs.drew))).mono ?_; rintro e' wl ⟨rfl, hbl⟩))
  have hb3 : Below w2.heap.size w2 wl := ⟨hbl.os, hbl.tape, hbl.output, hbl.size, hbl.block⟩
  have HX3 := Lib.hid ((HX.out.step hb3).set3 (digE e.house e.seq e.day e.prev e.body e.r e.s))
  have HT3 := Lib.hid ((HT2.out.step hb3).set HTT.out (a := ⟨nx, 3, none⟩) hnx (.string (digE e.house e.seq e.day e.prev e.body e.r e.s)))
  clear hbl hb3 HX HT2
  generalize wl.setCell ⟨nx, 3, none⟩ (.string (digE e.house e.seq e.day e.prev e.body e.r e.s)) = w3 at *
  obtain ⟨x0, x1, x2, x3, x4, x5, x6⟩ := HX3.out.at_
  have hval : valAt w3 ⟨nx, 3, none⟩ = .string (digE e.house e.seq e.day e.prev e.body e.r e.s) := by unfold valAt; rw [x3]; rfl
  have i7 : ¬ (4000 : Int) ≤ (k : Int) + 1 := by omega
  clear i1 i2 i3 i4 i5
  have q1' : ¬ (2000 : Int) < (body.size : Int) := by omega
  have q1'' : ¬ 2000 < body.size := by omega
  clear q1
  have HTX := Lib.hid (fun w ht => Text_raw ho ((k : Int) + 1) day (digE e.house e.seq e.day e.prev e.body e.r e.s) body 0 0 w hho ⟨by omega, by omega⟩ ⟨by omega, by omega⟩ hpv hbs ht)
  go_wp2_with fail
  refine (HTX.out _ HT3.out.tabs).mono ?_
  rintro e' w5 ⟨rfl, hb⟩
  have HX5 := Lib.hid (HX3.out.step hb)
  have HT5 := Lib.hid (HT3.out.step hb)
  clear hb x0 x1 x2 x3 x4 x5 x6
  go_wp2_with fail
  refine (HSG.out _ HT5.out.tabs).mono ?_
  rintro e' w6 ⟨rfl, hb⟩
  have HX6 := Lib.hid (HX5.out.step hb)
  have HT6 := Lib.hid (HT5.out.step hb)
  clear hb
  obtain ⟨x0, x1, x2, x3, x4, x5, x6⟩ := HX6.out.at_
  have z5 := (HX6.out.free 5 (by omega)).2
  have z6 := (HX6.out.free 6 (by omega)).2
  rw [Nat.zero_add] at z5 z6
  go_wp2_with fail
  have HX7 := Lib.hid (HX6.out.set56 R S)
  have HT7 := Lib.hid ((HT6.out.set HTT.out (a := ⟨nx, 5, none⟩) hnx (.int .i64 R)).set HTT.out (a := ⟨nx, 6, none⟩) hnx (.int .i64 S))
  clear x0 x1 x2 x3 x4 x5 x6 z5 z6 HX6 HT6 HX5 HT5
  generalize (w6.setCell ⟨nx, 5, none⟩ (.int .i64 R)).setCell ⟨nx, 6, none⟩ (.int .i64 S) = w7 at *
  obtain ⟨x0, x1, x2, x3, x4, x5, x6⟩ := HX7.out.at_
  have hlx7 := HX7.out.lt
  have HA7 := Lib.hid (HAT.out.step (w' := w7) HT7.out.bel)
  go_region_held_law (fun w' => w'.cell? ⟨nx, 0, none⟩ = some (.int .i64 ho) ∧ w'.cell? ⟨nx, 1, none⟩ = some (.int .i64 ((k : Int) + 1)) ∧ w'.cell? ⟨nx, 2, none⟩ = some (.int .i64 day) ∧ w'.cell? ⟨nx, 3, none⟩ = some (.string (digE e.house e.seq e.day e.prev e.body e.r e.s)) ∧ w'.cell? ⟨nx, 4, none⟩ = some (.string body) ∧ w'.cell? ⟨nx, 5, none⟩ = some (.int .i64 R) ∧ w'.cell? ⟨nx, 6, none⟩ = some (.int .i64 S) ∧ Trk w7 w') (first | (go_keep; done) | exact ent_grown HT7.out.tabs hlx7 hg2 (by simp [Value.ownBlock]) (by assumption) | exact ent_grown HT7.out.tabs hlx7 hg3 hr3 (by assumption) | exact keep_ent hlx7 (drewN_below _ 1) (by assumption) | exact keep_ent hlx7 (alloc_below _ _) (by assumption) | exact keep_ent hlx7 (alloc_drew_below _ _) (by assumption) | exact keep_ent hlx7 (drewN_below _ 1) (ini_ent x0 x1 x2 x3 x4 x5 x6 (Trk.start HT7.out.tabs)) | exact keep_ent hlx7 (alloc_below _ _) (ini_ent x0 x1 x2 x3 x4 x5 x6 (Trk.start HT7.out.tabs)) | exact keep_ent hlx7 (alloc_drew_below _ _) (ini_ent x0 x1 x2 x3 x4 x5 x6 (Trk.start HT7.out.tabs)) | exact (ini_ent x0 x1 x2 x3 x4 x5 x6 (Trk.start HT7.out.tabs)) | (trace_state; sorry)) (first | (refine step_app_ent rfl _ _ rfl w7.heap.size (.slice none 0 0) 0 [] rfl (Own.nil _ _ _) (.slice (some ⟨lb, lo, none⟩) (k + 1) c) (k + 1) (cellsE l) rfl (by rw [← hlen]; exact (HA7.out.step (held_ent (by first | assumption | exact (ini_ent x0 x1 x2 x3 x4 x5 x6 (Trk.start HT7.out.tabs)) | exact keep_ent hlx7 (drewN_below _ 1) (ini_ent x0 x1 x2 x3 x4 x5 x6 (Trk.start HT7.out.tabs)))).bel).src) (by omega) (by exact (held_ent (by assumption)).bel.size) ?_; intro v2 w8 hown2 hg2 _) | (refine step_app_ent rfl _ _ rfl w7.heap.size v2 (0 + (k + 1)) ([] ++ cellsE l) rfl (by repeat (first | exact hown2 | apply Own.drew | apply Own.alloc)) _ 1 [.int .i64 ho, .int .i64 ((k : Int) + 1), .int .i64 day, .string (digE e.house e.seq e.day e.prev e.body e.r e.s), .string body, .int .i64 R, .int .i64 S] rfl (src_range (by first | exact rangeAt_new _ _ _ | exact rangeAt_drew (rangeAt_new _ _ _) | (refine rangeAt_grown (rangeAt_drew (rangeAt_new _ _ _)) hg2 ?_ ?_ <;> simp [Value.ownBlock]; done) | (refine rangeAt_grown (rangeAt_new _ _ _) hg2 ?_ ?_ <;> simp [Value.ownBlock]; done)) rfl (by simp [Value.oneCell'])) (by omega) (by exact (held_ent (by assumption)).bel.size) ?_; intro v3 w9 hown3 hg3 _; have hr3 := fun g hg => (hown2.lt g hg).1))
  all_goals
    have hF := Lib.hid (held_ent (by assumption))
    have hO : Own w9 w7.heap.size 7 v3 (l ++ [(⟨ho, ((k : Int) + 1), day, (digE e.house e.seq e.day e.prev e.body e.r e.s), body, R, S⟩ : Ent)]).length (cellsE (l ++ [(⟨ho, ((k : Int) + 1), day, (digE e.house e.seq e.day e.prev e.body e.r e.s), body, R, S⟩ : Ent)])) := by
      have e1 : (l ++ [(⟨ho, ((k : Int) + 1), day, (digE e.house e.seq e.day e.prev e.body e.r e.s), body, R, S⟩ : Ent)]).length = 0 + (k + 1) + 1 := by simp; omega
      rw [e1, cellsE_append]
      exact hown3
    obtain ⟨ao2, cap2, lb2, lo2, hv2, hE, hcp⟩ := hO.ents
    subst hv2
    have HEE := Lib.hid hE
    have HCP := Lib.hid hcp
    clear hown3 hown2 hg2 hg3 hr3 hO hE hcp
    go_wp2_with fail
    go_ret2
    refine ⟨ao2, cap2, lb2, lo2, ?_, HEE.out, ?_, HCP.out⟩
    · first | rfl | (simp; done) | (simp; omega)
    exact (HT7.out.bel.trans (hF.out.bel.mono HT7.out.bel.size))
set_option maxHeartbeats 4000000 in
set_option maxRecDepth 100000 in
theorem App_e_size (ao : Option Addr) (c : Nat) (ho x y day at' : Int) (body : ByteArray) (w : World) (ht : Tabs w) (hbs : body.size ≤ 40000)
    (hP : ∀ w, Calls Tryd.prog 47 #[.int .i64 x] w fun e w' => e = .returned (.tuple #[.int .i64 y, .int .i64 0]) ∧ w = w')
    (hC : Calls Tryd.prog 38 #[.slice ao 0 c, .int .i64 ho, .int .i64 y] w fun e w' => e = .returned (.tuple #[.int .i64 0, .int .i64 at']) ∧ Below w.heap.size w w')
    (q1 : ¬ body.size ≤ 2000) :
    Calls Tryd.prog 40 #[.slice ao 0 c, .int .i64 ho, .int .i64 x, .int .i64 day, .string body] w fun e' w' => e' = .returned (.tuple #[.slice none 0 0, .int .i64 3]) ∧ Below w.heap.size w w' := by
  have HP := Lib.hid hP
  have HC := Lib.hid hC
  have HT0 := Lib.hid (Trk.start ht)
  have HTT := Lib.hid ht
  clear hP hC ht
  go_enter Tryd.func40, Tryd.ntmps40
  go_wp2_with fail
  refine (HP.out _).mono ?_
  rintro e' wx ⟨rfl, rfl⟩
  go_wp2_with fail
  refine HC.out.mono ?_
  rintro e' w1 ⟨rfl, hb⟩
  have HT1 := Lib.hid (HT0.out.step hb)
  clear hb
  have q1' : (2000 : Int) < (body.size : Int) := by omega
  have q1'' : 2000 < body.size := by omega
  clear q1
  go_wp2_with fail
  go_ret2
  exact ⟨rfl, (HT1.out.alloc (.cells #[.int .i64 ho, .int .i64 0, .int .i64 day, .string ⟨#[]⟩, .string body, .int .i64 0, .int .i64 0] 63)).bel⟩
set_option maxHeartbeats 4000000 in
set_option maxRecDepth 100000 in
theorem App_e_day (ao : Option Addr) (c : Nat) (ho x y day at' : Int) (body : ByteArray) (w : World) (ht : Tabs w) (hbs : body.size ≤ 40000)
    (hP : ∀ w, Calls Tryd.prog 47 #[.int .i64 x] w fun e w' => e = .returned (.tuple #[.int .i64 y, .int .i64 0]) ∧ w = w')
    (hC : Calls Tryd.prog 38 #[.slice ao 0 c, .int .i64 ho, .int .i64 y] w fun e w' => e = .returned (.tuple #[.int .i64 0, .int .i64 at']) ∧ Below w.heap.size w w')
    (q1 : body.size ≤ 2000) (q2 : day < 0 ∨ 2000 < day) :
    Calls Tryd.prog 40 #[.slice ao 0 c, .int .i64 ho, .int .i64 x, .int .i64 day, .string body] w fun e' w' => e' = .returned (.tuple #[.slice none 0 0, .int .i64 1]) ∧ Below w.heap.size w w' := by
  have HP := Lib.hid hP
  have HC := Lib.hid hC
  have HT0 := Lib.hid (Trk.start ht)
  have HTT := Lib.hid ht
  clear hP hC ht
  go_enter Tryd.func40, Tryd.ntmps40
  go_wp2_with fail
  refine (HP.out _).mono ?_
  rintro e' wx ⟨rfl, rfl⟩
  go_wp2_with fail
  refine HC.out.mono ?_
  rintro e' w1 ⟨rfl, hb⟩
  have HT1 := Lib.hid (HT0.out.step hb)
  clear hb
  have q1' : ¬ (2000 : Int) < (body.size : Int) := by omega
  have q1'' : ¬ 2000 < body.size := by omega
  clear q1
  have q2' : (decide (day < 0) || decide (2000 < day)) = true := by rcases q2 with q2 | q2 <;> simp [q2]
  rcases q2 with q2 | q2
  all_goals
    try have q4 : ¬ day < 0 := by omega
    go_wp2_with fail
    go_ret2
    exact ⟨rfl, (HT1.out.alloc (.cells #[.int .i64 ho, .int .i64 0, .int .i64 day, .string ⟨#[]⟩, .string body, .int .i64 0, .int .i64 0] 63)).bel⟩
set_option maxHeartbeats 4000000 in
set_option maxRecDepth 100000 in
theorem App_e_ok (ao : Option Addr) (c : Nat) (ho x y day at' : Int) (body : ByteArray) (w : World) (ht : Tabs w) (hbs : body.size ≤ 40000)
    (hP : ∀ w, Calls Tryd.prog 47 #[.int .i64 x] w fun e w' => e = .returned (.tuple #[.int .i64 y, .int .i64 0]) ∧ w = w')
    (hC : Calls Tryd.prog 38 #[.slice ao 0 c, .int .i64 ho, .int .i64 y] w fun e w' => e = .returned (.tuple #[.int .i64 0, .int .i64 at']) ∧ Below w.heap.size w w')
    (q1 : body.size ≤ 2000) (q2 : 0 ≤ day) (q2' : day ≤ 2000) (q3 : 0 ≤ day) (hho : I64 ho) (R S : Int) (hSG : ∀ w, Tabs w → Calls Tryd.prog 75 #[.int .i64 x, .string (txtE ho 0 day ⟨#[]⟩ body)] w fun e w' => e = .returned (.tuple #[.agg #[.int .i64 R, .int .i64 S], .int .i64 0]) ∧ Below w.heap.size w w') (hat : EntsAt w ao 0 0 []) :
    Calls Tryd.prog 40 #[.slice ao 0 c, .int .i64 ho, .int .i64 x, .int .i64 day, .string body] w fun e' w' => AppPost w (([] : List Ent) ++ [⟨ho, 0, day, ⟨#[]⟩, body, R, S⟩]) e' w' := by
  have HP := Lib.hid hP
  have HC := Lib.hid hC
  have HT0 := Lib.hid (Trk.start ht)
  have HTT := Lib.hid ht
  clear hP hC ht
  have HSG := Lib.hid hSG
  have HAT := Lib.hid hat
  clear hSG hat
  have hpv : (⟨#[]⟩ : ByteArray).size ≤ 40000 := by decide
  go_enter Tryd.func40, Tryd.ntmps40
  go_wp2_with fail
  refine (HP.out _).mono ?_
  rintro e' wx ⟨rfl, rfl⟩
  go_wp2_with fail
  refine HC.out.mono ?_
  rintro e' w1 ⟨rfl, hb⟩
  have HT1 := Lib.hid (HT0.out.step hb)
  clear hb
  have q1' : ¬ (2000 : Int) < (body.size : Int) := by omega
  have q1'' : ¬ 2000 < body.size := by omega
  clear q1
  go_wp2_with fail
  have HX := Lib.hid (Box7.new w1 ho 0 day ⟨#[]⟩ body 0 0 63)
  have HT2 := Lib.hid (HT1.out.alloc (.cells #[.int .i64 ho, .int .i64 0, .int .i64 day, .string ⟨#[]⟩, .string body, .int .i64 0, .int .i64 0] 63))
  have hnx : w.heap.size ≤ w1.heap.size := HT1.out.bel.size
  generalize w1.alloc (.cells #[.int .i64 ho, .int .i64 0, .int .i64 day, .string ⟨#[]⟩, .string body, .int .i64 0, .int .i64 0] 63) = w2 at *
  generalize w1.heap.size = nx at *
  have HX3 := Lib.hid HX.out
  have HT3 := Lib.hid HT2.out
  clear HX HT2
  obtain ⟨x0, x1, x2, x3, x4, x5, x6⟩ := HX3.out.at_
  have HTX := Lib.hid (fun w ht => Text_raw ho 0 day ⟨#[]⟩ body 0 0 w hho ⟨by omega, by omega⟩ ⟨by omega, by omega⟩ hpv hbs ht)
  go_wp2_with fail
  refine (HTX.out _ HT3.out.tabs).mono ?_
  rintro e' w5 ⟨rfl, hb⟩
  have HX5 := Lib.hid (HX3.out.step hb)
  have HT5 := Lib.hid (HT3.out.step hb)
  clear hb x0 x1 x2 x3 x4 x5 x6
  go_wp2_with fail
  refine (HSG.out _ HT5.out.tabs).mono ?_
  rintro e' w6 ⟨rfl, hb⟩
  have HX6 := Lib.hid (HX5.out.step hb)
  have HT6 := Lib.hid (HT5.out.step hb)
  clear hb
  obtain ⟨x0, x1, x2, x3, x4, x5, x6⟩ := HX6.out.at_
  have z5 := (HX6.out.free 5 (by omega)).2
  have z6 := (HX6.out.free 6 (by omega)).2
  rw [Nat.zero_add] at z5 z6
  go_wp2_with fail
  have HX7 := Lib.hid (HX6.out.set56 R S)
  have HT7 := Lib.hid ((HT6.out.set HTT.out (a := ⟨nx, 5, none⟩) hnx (.int .i64 R)).set HTT.out (a := ⟨nx, 6, none⟩) hnx (.int .i64 S))
  clear x0 x1 x2 x3 x4 x5 x6 z5 z6 HX6 HT6 HX5 HT5
  generalize (w6.setCell ⟨nx, 5, none⟩ (.int .i64 R)).setCell ⟨nx, 6, none⟩ (.int .i64 S) = w7 at *
  obtain ⟨x0, x1, x2, x3, x4, x5, x6⟩ := HX7.out.at_
  have hlx7 := HX7.out.lt
  have HA7 := Lib.hid (HAT.out.step (w' := w7) HT7.out.bel)
  go_region_held_law (fun w' => w'.cell? ⟨nx, 0, none⟩ = some (.int .i64 ho) ∧ w'.cell? ⟨nx, 1, none⟩ = some (.int .i64 0) ∧ w'.cell? ⟨nx, 2, none⟩ = some (.int .i64 day) ∧ w'.cell? ⟨nx, 3, none⟩ = some (.string ⟨#[]⟩) ∧ w'.cell? ⟨nx, 4, none⟩ = some (.string body) ∧ w'.cell? ⟨nx, 5, none⟩ = some (.int .i64 R) ∧ w'.cell? ⟨nx, 6, none⟩ = some (.int .i64 S) ∧ Trk w7 w') (first | (go_keep; done) | exact ent_grown HT7.out.tabs hlx7 hg2 (by simp [Value.ownBlock]) (by assumption) | exact ent_grown HT7.out.tabs hlx7 hg3 hr3 (by assumption) | exact keep_ent hlx7 (drewN_below _ 1) (by assumption) | exact keep_ent hlx7 (alloc_below _ _) (by assumption) | exact keep_ent hlx7 (alloc_drew_below _ _) (by assumption) | exact keep_ent hlx7 (drewN_below _ 1) (ini_ent x0 x1 x2 x3 x4 x5 x6 (Trk.start HT7.out.tabs)) | exact keep_ent hlx7 (alloc_below _ _) (ini_ent x0 x1 x2 x3 x4 x5 x6 (Trk.start HT7.out.tabs)) | exact keep_ent hlx7 (alloc_drew_below _ _) (ini_ent x0 x1 x2 x3 x4 x5 x6 (Trk.start HT7.out.tabs)) | exact (ini_ent x0 x1 x2 x3 x4 x5 x6 (Trk.start HT7.out.tabs)) | (trace_state; sorry)) (first | (refine step_app_ent rfl _ _ rfl w7.heap.size (.slice none 0 0) 0 [] rfl (Own.nil _ _ _) (.slice ao 0 c) 0 (cellsE ([] : List Ent)) rfl (by exact (HA7.out.step (held_ent (by first | assumption | exact (ini_ent x0 x1 x2 x3 x4 x5 x6 (Trk.start HT7.out.tabs)) | exact keep_ent hlx7 (drewN_below _ 1) (ini_ent x0 x1 x2 x3 x4 x5 x6 (Trk.start HT7.out.tabs)))).bel).src) (by omega) (by exact (held_ent (by assumption)).bel.size) ?_; intro v2 w8 hown2 hg2 _) | (refine step_app_ent rfl _ _ rfl w7.heap.size v2 (0 + 0) ([] ++ cellsE ([] : List Ent)) rfl (by repeat (first | exact hown2 | apply Own.drew | apply Own.alloc)) _ 1 [.int .i64 ho, .int .i64 0, .int .i64 day, .string ⟨#[]⟩, .string body, .int .i64 R, .int .i64 S] rfl (src_range (by first | exact rangeAt_new _ _ _ | exact rangeAt_drew (rangeAt_new _ _ _) | (refine rangeAt_grown (rangeAt_drew (rangeAt_new _ _ _)) hg2 ?_ ?_ <;> simp [Value.ownBlock]; done) | (refine rangeAt_grown (rangeAt_new _ _ _) hg2 ?_ ?_ <;> simp [Value.ownBlock]; done)) rfl (by simp [Value.oneCell'])) (by omega) (by exact (held_ent (by assumption)).bel.size) ?_; intro v3 w9 hown3 hg3 _; have hr3 := fun g hg => (hown2.lt g hg).1))
  all_goals
    have hF := Lib.hid (held_ent (by assumption))
    have hO : Own w9 w7.heap.size 7 v3 (([] : List Ent) ++ [(⟨ho, 0, day, ⟨#[]⟩, body, R, S⟩ : Ent)]).length (cellsE (([] : List Ent) ++ [(⟨ho, 0, day, ⟨#[]⟩, body, R, S⟩ : Ent)])) := by
      have e1 : (([] : List Ent) ++ [(⟨ho, 0, day, ⟨#[]⟩, body, R, S⟩ : Ent)]).length = 0 + 0 + 1 := by simp
      rw [e1, cellsE_append]
      exact hown3
    obtain ⟨ao2, cap2, lb2, lo2, hv2, hE, hcp⟩ := hO.ents
    subst hv2
    have HEE := Lib.hid hE
    have HCP := Lib.hid hcp
    clear hown3 hown2 hg2 hg3 hr3 hO hE hcp
    go_wp2_with fail
    go_ret2
    refine ⟨ao2, cap2, lb2, lo2, ?_, HEE.out, ?_, HCP.out⟩
    · first | rfl | (simp; done) | (simp; omega)
    exact (HT7.out.bel.trans (hF.out.bel.mono HT7.out.bel.size))
/-- The entry that is appended: its signature is made with the secret x. -/
def newEnt (ho : Int) (x : Nat) (day : Int) (body : ByteArray) (q : Int) (pv : ByteArray) : Ent :=
  ⟨ho, q, day, pv, body, (pw 7 (kay x (txtE ho q day pv body)) : Nat), (sgS x (txtE ho q day pv body) : Nat)⟩
/-- The last day and the last digest of a list. -/
def lastDay (l : List Ent) : Int := match l.getLast? with | some e => e.day | none => 0
def lastDig (l : List Ent) : ByteArray := match l.getLast? with | some e => e.dig | none => ⟨#[]⟩
theorem lastDay_nil : lastDay [] = 0 := rfl
theorem lastDig_nil : lastDig [] = ⟨#[]⟩ := rfl
theorem lastDay_snoc (l : List Ent) (e : Ent) : lastDay (l ++ [e]) = e.day := by simp [lastDay]
theorem lastDig_snoc (l : List Ent) (e : Ent) : lastDig (l ++ [e]) = e.dig := by simp [lastDig]
theorem lastDig_size (l : List Ent) : (lastDig l).size ≤ 40000 := by
  unfold lastDig
  split
  · rw [digE_size]; decide
  · decide
/-- What chain.Append returns: an error, or the list with an entry more. -/
def AppRes (w : World) (c : Int) (m : List Ent) (e : Ending) (w' : World) : Prop :=
  (c ≠ 0 ∧ e = .returned (.tuple #[.slice none 0 0, .int .i64 c]) ∧ Below w.heap.size w w') ∨ (c = 0 ∧ AppPost w m e w')
/-- The error of chain.Append. -/
@[irreducible] def appC (ho x day : Int) (body : ByteArray) (l : List Ent) : Int :=
  if x < 1 ∨ 2147483646 ≤ x then 1 else if (chkE ho (pw 7 x.toNat : Nat) l).1 ≠ 0 then (chkE ho (pw 7 x.toNat : Nat) l).1
  else if ¬ body.size ≤ 2000 then 3 else if day < 0 ∨ 2000 < day then 1 else if day < lastDay l then 15 else 0
theorem appC_eq (ho x day : Int) (body : ByteArray) (l : List Ent) : appC ho x day body l = if x < 1 ∨ 2147483646 ≤ x then 1 else if (chkE ho (pw 7 x.toNat : Nat) l).1 ≠ 0 then (chkE ho (pw 7 x.toNat : Nat) l).1
  else if ¬ body.size ≤ 2000 then 3 else if day < 0 ∨ 2000 < day then 1 else if day < lastDay l then 15 else 0 := by unfold appC; rfl
theorem chk_house {ho y : Int} {l : List Ent} (h : (chkE ho y l).1 = 0) : 0 ≤ ho ∧ ho < 12 ∧ 1 ≤ y ∧ y < 2147483647 := by
  rw [chkE_eq] at h
  split at h
  · cases h
  · omega
/-- Append, at every list, house, secret, day and body. -/
theorem Append_any (l : List Ent) (ao : Option Addr) (lb lo c : Nat) (ho x day : Int) (body : ByteArray) (w : World) (hl : l.length ≤ 99) (hok : ∀ e ∈ l, e.Ok) (hat : EntsAt w ao lb lo l) (ht : Tabs w) (hbs : body.size ≤ 40000) (hx : I64 x) :
    Calls Tryd.prog 40 #[.slice ao l.length c, .int .i64 ho, .int .i64 x, .int .i64 day, .string body] w
      (AppRes w (appC ho x day body l) (l ++ [newEnt ho x.toNat day body l.length (lastDig l)])) := by
  rw [appC_eq]
  by_cases h1 : x < 1 ∨ 2147483646 ≤ x
  · rw [if_pos h1]
    refine (App_pub _ ho x day body w (fun w => ?_)).mono fun e w' h => .inl ⟨by decide, h⟩
    by_cases h2 : x < 1
    · exact Public_low x w h2
    · exact Public_high x w (by omega) (by omega)
  rw [if_neg h1]
  obtain ⟨X, rfl⟩ : ∃ X : Nat, x = X := ⟨x.toNat, by omega⟩
  have hP := fun w => Public_ok X w (by omega) (by omega)
  rw [Int.toNat_natCast]
  have hC := Check_any ho (pw 7 X : Nat) l ao lb lo c w (by omega) hok hat ht
  have hh := chk_house (ho := ho) (y := (pw 7 X : Nat)) (l := l)
  generalize pw 7 X = y at *
  generalize hcv : chkE ho y l = cv at *
  obtain ⟨c1, c2⟩ := cv
  by_cases h2 : c1 ≠ 0
  · rw [if_pos h2]
    exact (App_chk _ ho X y day c1 c2 body w (by simpa using h2) hP hC).mono fun e w' h => .inl ⟨h2, h⟩
  rw [if_neg h2]
  obtain rfl : c1 = 0 := Classical.not_not.1 h2
  obtain ⟨g1, g2, _, _⟩ := hh rfl
  have hho : I64 ho := ⟨by omega, by omega⟩
  rcases List.eq_nil_or_concat l with rfl | ⟨t, e, rfl⟩
  · rw [lastDay_nil, lastDig_nil]
    have hat0 : EntsAt w ao 0 0 [] := ⟨fun h => by simp at h, fun i e he => by simp at he⟩
    by_cases q1 : body.size ≤ 2000
    · rw [if_neg (not_not_intro q1)]
      by_cases q2 : day < 0 ∨ 2000 < day
      · rw [if_pos q2]
        exact (App_e_day ao c ho X y day c2 body w ht hbs hP hC q1 q2).mono fun e w' h => .inl ⟨by decide, h⟩
      · rw [if_neg q2, if_neg (by omega)]
        exact (App_e_ok ao c ho X y day c2 body w ht hbs hP hC q1 (by omega) (by omega) (by omega) hho _ _ (fun w ht => Sign_ok X _ w (by omega) (by omega) (Nat.le_trans (txtE_size _ _ _ _ _ hho ⟨by omega, by omega⟩ ⟨by omega, by omega⟩ (by decide) hbs) (by decide)) ht) hat0).mono fun e w' h => .inr ⟨rfl, h⟩
    · rw [if_pos q1]
      exact (App_e_size ao c ho X y day c2 body w ht hbs hP hC q1).mono fun e w' h => .inl ⟨by decide, h⟩
  · rw [List.concat_eq_append] at *
    rw [lastDay_snoc, lastDig_snoc]
    have hlen : (t ++ [e]).length = t.length + 1 := by simp
    rw [hlen] at hC hl ⊢
    have hlb := (hat.ao (by simp)).2
    have ha := (hat.ao (by simp)).1
    have he := hat.at_ t.length e (by simp)
    have hoe := hok e (by simp)
    by_cases q1 : body.size ≤ 2000
    · rw [if_neg (not_not_intro q1)]
      by_cases q2 : day < 0 ∨ 2000 < day
      · rw [if_pos q2]
        exact (App_n_day ao t.length c ho X y day c2 body w ht hbs lb lo e (by omega) hlb ha he hoe hP hC q1 q2).mono fun e w' h => .inl ⟨by decide, h⟩
      · rw [if_neg q2]
        by_cases q3 : day < e.day
        · rw [if_pos q3]
          exact (App_n_order ao t.length c ho X y day c2 body w ht hbs lb lo e (by omega) hlb ha he hoe hP hC q1 (by omega) (by omega) q3).mono fun e w' h => .inl ⟨by decide, h⟩
        · rw [if_neg q3]
          exact (App_n_ok ao t.length c ho X y day c2 body w ht hbs lb lo e (by omega) hlb ha he hoe hP hC q1 (by omega) (by omega) (by omega) hho _ _ (fun w ht => Sign_ok X _ w (by omega) (by omega) (Nat.le_trans (txtE_size _ _ _ _ _ hho ⟨by omega, by omega⟩ ⟨by omega, by omega⟩ (by rw [digE_size]; decide) hbs) (by decide)) ht) (t ++ [e]) hlen hat).mono fun e w' h => .inr ⟨rfl, h⟩
    · rw [if_pos q1]
      exact (App_n_size ao t.length c ho X y day c2 body w ht hbs lb lo e (by omega) hlb ha he hoe hP hC q1).mono fun e w' h => .inl ⟨by decide, h⟩
end Go.Proofs.YtpdbcahiipbhnaaDoor
