/- Entries and other arguments: opened; read again behind a call that leaves old memory alone. -/
import Derived.Test.YtpdbcahiipbhnaaDoorFrame
import Derived.Test.YtpdbcahiipbhnaaDoorMI
import Derived.Carry
import Derived.Lib.SmallJoins
import Derived.Deep.Slices
namespace Go.Proofs.YtpdbcahiipbhnaaDoor
open Go.ChangeShapes Go.WideShapes Go.ChangeAt Go.RowKit Go.Joins

theorem laid_out : laidOutB Tryd.prog = true := by kernel_rfl
/-- The arguments read as they did. -/
theorem args_back {H : Type} {enc : TypeId × Value → H} {W W' : World} (hb : Below W.heap.size W W') : ∀ {ts : List TypeId} {vs : List Value} {ds : List (DataW H)} {ps : List MemPlace},
    (∀ t ∈ ts, Tryd.prog.readableRec t = true ∧ t < Tryd.prog.types.size) → DataW.TrodAll enc Tryd.prog W 0 (fun _ => true) true ts vs ds ps → (∀ x ∈ ps, x.block < W.heap.size) →
    DataW.TrodAll enc Tryd.prog W' 0 (fun b => decide (b < W.heap.size)) true ts vs ds ps
  | [], [], [], _, _, h, _ => h
  | [], [], _ :: _, _, _, h, _ => h.elim
  | [], _ :: _, _, _, _, h, _ => h.elim
  | _ :: _, [], _, _, _, h, _ => h.elim
  | _ :: _, _ :: _, [], _, _, h, _ => h.elim
  | _ :: _, _ :: _, _ :: _, _, hT, ⟨p, q, h1, h2, e⟩, hs =>
    ⟨p, q, h1.elim fun n hn => Below.trod laid_out (hT _ List.mem_cons_self).1 (hT _ List.mem_cons_self).2 ⟨n, hn⟩ hb (fun x hx => hs x (by rw [e]; exact List.mem_append_left _ hx)),
      args_back hb (fun t ht => hT t (List.mem_cons_of_mem _ ht)) h2 (fun x hx => hs x (by rw [e]; exact List.mem_append_right _ hx)), e⟩
theorem i64_wf {n : Int} (h : (Lit.int .i64 n).wf = true) : I64 n := by simp only [Lit.wf, Bool.and_eq_true, decide_eq_true_eq] at h; exact h
theorem cI : Tryd.prog.cellsOf 3 = 1 := by kernel_rfl
theorem cS : Tryd.prog.cellsOf 9 = 1 := by kernel_rfl
theorem cG : Tryd.prog.cellsOf 61 = 2 := by kernel_rfl
theorem cK : Tryd.prog.cellsOf 53 = 5 := by kernel_rfl
theorem cE : Tryd.prog.cellsOf 63 = 7 := by kernel_rfl
section
variable {H : Type} {enc : TypeId × Value → H} {w : World} {base : Nat} {spare : Nat → Bool} {held : Bool}
theorem field_at {n : Nat} {cs : List Value} {xs : List (DataW H × List MemPlace)} {fs : Array Field} (hg : ∀ (i : Nat) (f : Field), fs[i]? = some f → DataW.trod enc Tryd.prog w base spare held n f.type ((cs.drop f.offset).take (Tryd.prog.cellsOf f.type)) = xs[i]?)
    (i t o c : Nat) (y : DataW H × List MemPlace) (hf : (fs[i]?).map (fun f => (f.type, f.offset)) = some (t, o)) (hc : Tryd.prog.cellsOf t = c) (hy : xs[i]? = some y) : DataW.trod enc Tryd.prog w base spare held n t ((cs.drop o).take c) = some y := by
  obtain ⟨f, h1, h2⟩ := Option.map_eq_some_iff.1 hf
  obtain ⟨rfl, rfl⟩ := Prod.mk.injEq _ _ _ _ ▸ h2
  rw [← hy, ← hc]
  exact hg i f h1
set_option maxRecDepth 100000 in
/-- Seven cells that read as an entry are an entry's. -/
theorem entry_cells {fuel : Nat} {cs : List Value} {x : DataW H × List MemPlace} (h : DataW.trod enc Tryd.prog w base spare held fuel 63 cs = some x) :
    ∃ e : Ent, cs = e.cells ∧ e.I ∧ e.prev.size ≤ maxLen ∧ e.body.size ≤ maxLen := by
  obtain ⟨xs, n, _, hx, hlen, hxl, hg⟩ := DataW.trod_struct Tryd.underlying63 h
  rw [cE] at hlen
  match cs, hlen with
  | [c0, c1, c2, c3, c4, c5, c6], _ =>
    match xs, hxl with
    | [y0, y1, y2, y3, y4, y5], _ =>
      have g0 := field_at hg 0 3 0 1 y0 rfl cI rfl
      have g1 := field_at hg 1 3 1 1 y1 rfl cI rfl
      have g2 := field_at hg 2 3 2 1 y2 rfl cI rfl
      have g3 := field_at hg 3 9 3 1 y3 rfl cS rfl
      have g4 := field_at hg 4 9 4 1 y4 rfl cS rfl
      have g5 := field_at hg 5 61 5 2 y5 rfl cG rfl
      obtain ⟨n0, e0, _, w0⟩ := DataW.trod_int Tryd.underlying3 g0
      obtain ⟨n1, e1, _, w1⟩ := DataW.trod_int Tryd.underlying3 g1
      obtain ⟨n2, e2, _, w2⟩ := DataW.trod_int Tryd.underlying3 g2
      obtain ⟨s3, e3, _, w3⟩ := DataW.trod_string Tryd.underlying9 g3
      obtain ⟨s4, e4, _, w4⟩ := DataW.trod_string Tryd.underlying9 g4
      obtain ⟨xs', n', _, _, hlen', hxl', hg'⟩ := DataW.trod_struct Tryd.underlying61 g5
      match xs', hxl' with
      | [z0, z1], _ =>
        have k0 := field_at hg' 0 3 0 1 z0 rfl cI rfl
        have k1 := field_at hg' 1 3 1 1 z1 rfl cI rfl
        obtain ⟨n5, e5, _, w5⟩ := DataW.trod_int Tryd.underlying3 k0
        obtain ⟨n6, e6, _, w6⟩ := DataW.trod_int Tryd.underlying3 k1
        simp at e0 e1 e2 e3 e4 e5 e6
        subst e0 e1 e2 e3 e4 e5 e6
        exact ⟨⟨n0, n1, n2, s3, s4, n5, n6⟩, rfl, ⟨i64_wf w0, i64_wf w1, i64_wf w2, i64_wf w5, i64_wf w6⟩, w3, w4⟩
set_option maxRecDepth 100000 in
/-- An entry by value. -/
theorem open_entry {r : Reach} {b0 : Nat} {v : Value} {d : DataW H} {ps : List MemPlace} (hv : Value.okWide Tryd.prog w r b0 63 v) (h : DataW.Trod enc Tryd.prog w base spare held 63 v d ps) :
    ∃ e : Ent, v = .agg e.cells.toArray ∧ e.I ∧ e.prev.size ≤ maxLen ∧ e.body.size ≤ maxLen := by
  obtain ⟨cs, rfl, _⟩ := okWide_struct Tryd.underlying63 hv
  obtain ⟨fuel, hf⟩ := h
  obtain ⟨e, he, h1, h2, h3⟩ := entry_cells hf
  have hc : cs = e.cells.toArray := by
    apply Array.toList_inj.1
    simpa [Value.cells] using he
  exact ⟨e, by rw [hc], h1, h2, h3⟩
set_option maxRecDepth 100000 in
/-- A key (a house, a secret, a public key, a day, a body) by value. -/
theorem open_key {r : Reach} {b0 : Nat} {v : Value} {d : DataW H} {ps : List MemPlace} (hv : Value.okWide Tryd.prog w r b0 53 v) (h : DataW.Trod enc Tryd.prog w base spare held 53 v d ps) :
    ∃ (kh ks kp kd : Int) (kb : ByteArray), v = .agg #[.int .i64 kh, .int .i64 ks, .int .i64 kp, .int .i64 kd, .string kb] ∧ (I64 kh ∧ I64 ks ∧ I64 kp ∧ I64 kd) := by
  obtain ⟨cs, rfl, _⟩ := okWide_struct Tryd.underlying53 hv
  obtain ⟨fuel, hf⟩ := h
  obtain ⟨xs, n, _, hx, hlen, hxl, hg⟩ := DataW.trod_struct Tryd.underlying53 hf
  rw [cK] at hlen
  generalize hcs : (Value.agg cs).cells.toList = cl at *
  have hcs' : cs.toList = cl := by rw [← hcs]; simp [Value.cells]
  match cl, hlen with
  | [c0, c1, c2, c3, c4], _ =>
    match xs, hxl with
    | [y0, y1, y2, y3, y4], _ =>
      have g0 := field_at hg 0 3 0 1 y0 rfl cI rfl
      have g1 := field_at hg 1 3 1 1 y1 rfl cI rfl
      have g2 := field_at hg 2 3 2 1 y2 rfl cI rfl
      have g3 := field_at hg 3 3 3 1 y3 rfl cI rfl
      have g4 := field_at hg 4 9 4 1 y4 rfl cS rfl
      obtain ⟨n0, e0, _, w0⟩ := DataW.trod_int Tryd.underlying3 g0
      obtain ⟨n1, e1, _, w1⟩ := DataW.trod_int Tryd.underlying3 g1
      obtain ⟨n2, e2, _, w2⟩ := DataW.trod_int Tryd.underlying3 g2
      obtain ⟨n3, e3, _, w3⟩ := DataW.trod_int Tryd.underlying3 g3
      obtain ⟨s4, e4, _, w4⟩ := DataW.trod_string Tryd.underlying9 g4
      simp at e0 e1 e2 e3 e4
      subst e0 e1 e2 e3 e4
      exact ⟨n0, n1, n2, n3, s4, congrArg Value.agg (Array.toList_inj.1 hcs'), i64_wf w0, i64_wf w1, i64_wf w2, i64_wf w3⟩
theorem cell_lt {w : World} {a : Addr} {v : Value} (h : w.cell? a = some v) : a.block < w.heap.size := by
  rcases Nat.lt_or_ge a.block w.heap.size with h1 | h1
  · exact h1
  · unfold World.cell? at h; rw [Array.getElem?_eq_none h1] at h; simp at h
theorem addr_eq {a : Addr} (h : a.spot = none) : a = ⟨a.block, a.off, none⟩ := by cases a; simp at h; subst h; rfl
set_option maxRecDepth 100000 in
/-- A list of entries as an argument. -/
theorem open_entries_cap {r : Reach} {b0 : Nat} {v : Value} {d : DataW H} {ps : List MemPlace} (hv : Value.okWide Tryd.prog w r b0 51 v) (h : DataW.Trod enc Tryd.prog w base spare held 51 v d ps) :
    ∃ (l : List Ent) (ao : Option Addr) (lb lo c : Nat), v = .slice ao l.length c ∧ EntsAt w ao lb lo l ∧ (∀ e ∈ l, e.I) ∧ l.length ≤ 9223372036854775807 ∧ l.length ≤ c := by
  obtain ⟨a0, len0, cap0, rfl⟩ := okWide_slice Tryd.underlying51 hv
  obtain ⟨fuel, hf⟩ := h
  rcases Go.Deep.open_slice Tryd.underlying51 hf with ⟨hcs, _⟩ | ⟨a, len, cap, m, n, D, Pl, hcs, _, hl, hm, hmm, _, hi⟩
  · simp [Value.cells] at hcs
    obtain ⟨rfl, rfl, rfl⟩ := hcs
    exact ⟨[], none, 0, 0, 0, rfl, ⟨fun h => absurd h (by decide), fun i e he => by simp at he⟩, fun e he => by simp at he, by simp, by simp⟩
  · simp [Value.cells] at hcs
    obtain ⟨rfl, rfl, rfl⟩ := hcs
    have hlm : len0 ≤ m := by rw [hmm]; split <;> omega
    rw [cE] at hi
    have key : ∀ i, i < len0 → ∃ e : Ent, (∀ j u, e.cells[j]? = some u → w.cell? (a.add (i * 7 + j)) = some u) ∧ e.I := fun i hii => by
      obtain ⟨cs', hc, ht⟩ := hi i (by omega)
      obtain ⟨e, rfl, hI, _, _⟩ := entry_cells ht
      obtain ⟨_, _, hat⟩ := World.cells?_some hc
      refine ⟨e, fun j u hj => ?_, hI⟩
      have hj7 : j < 7 := (List.getElem?_eq_some_iff.1 hj).1
      have := hat j hj7
      rw [Go.Deep.add_add, hj] at this
      exact this
    have : ∃ f : Nat → Ent, ∀ i, i < len0 → (∀ j u, (f i).cells[j]? = some u → w.cell? (a.add (i * 7 + j)) = some u) ∧ (f i).I := by
      refine ⟨fun i => if h : i < len0 then Classical.choose (key i h) else ⟨0, 0, 0, ⟨#[]⟩, ⟨#[]⟩, 0, 0⟩, fun i h => ?_⟩
      simp only [dif_pos h]
      exact Classical.choose_spec (key i h)
    obtain ⟨f, hf'⟩ := this
    have hlen : ((List.range len0).map f).length = len0 := by simp
    have hsp : 0 < len0 → a = ⟨a.block, a.off, none⟩ ∧ a.block < w.heap.size := fun h0 => by
      have hc := (hf' 0 h0).1 0 _ rfl
      rw [Nat.zero_mul, Nat.zero_add] at hc
      have hc2 : w.cell? a = some (.int .i64 (f 0).house) := by simpa [Addr.add] using hc
      exact ⟨addr_eq (World.cell?_spot hc2), cell_lt hc2⟩
    refine ⟨(List.range len0).map f, some a, a.block, a.off, cap0, by rw [hlen], ⟨fun h0 => ?_, fun i e he => ?_⟩, fun e he => ?_, by rw [hlen]; unfold maxLen at hm; omega, by rw [hlen]; exact hl⟩
    · rw [hlen] at h0
      exact ⟨congrArg some (hsp h0).1, (hsp h0).2⟩
    · have hii : i < len0 := by have := (List.getElem?_eq_some_iff.1 he).1; simpa using this
      have hee : e = f i := by
        rw [List.getElem?_map, List.getElem?_range hii] at he
        simpa using he.symm
      subst hee
      have ha := (hsp (by omega)).1
      have g : ∀ j, j < 7 → ∀ u, (f i).cells[j]? = some u → w.cell? ⟨a.block, a.off + i * 7 + j, none⟩ = some u := fun j _ u hj => by
        have := (hf' i hii).1 j u hj
        rw [ha, Addr.add_mid, ← Nat.add_assoc] at this
        exact this
      exact ⟨g 0 (by decide) _ rfl, g 1 (by decide) _ rfl, g 2 (by decide) _ rfl, g 3 (by decide) _ rfl, g 4 (by decide) _ rfl, g 5 (by decide) _ rfl, g 6 (by decide) _ rfl⟩
    · obtain ⟨i, hii, rfl⟩ := List.mem_map.1 he
      exact (hf' i (List.mem_range.1 hii)).2
set_option maxRecDepth 100000 in
/-- A list of entries as an argument. -/
theorem open_entries {r : Reach} {b0 : Nat} {v : Value} {d : DataW H} {ps : List MemPlace} (hv : Value.okWide Tryd.prog w r b0 51 v) (h : DataW.Trod enc Tryd.prog w base spare held 51 v d ps) :
    ∃ (l : List Ent) (ao : Option Addr) (lb lo c : Nat), v = .slice ao l.length c ∧ EntsAt w ao lb lo l ∧ (∀ e ∈ l, e.I) ∧ l.length ≤ 9223372036854775807 :=
  have ⟨l, ao, lb, lo, c, h1, h2, h3, h4, _⟩ := open_entries_cap hv h
  ⟨l, ao, lb, lo, c, h1, h2, h3, h4⟩
end
end Go.Proofs.YtpdbcahiipbhnaaDoor
