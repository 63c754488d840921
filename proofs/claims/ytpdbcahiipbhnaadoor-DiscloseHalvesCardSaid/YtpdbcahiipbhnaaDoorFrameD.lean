/- Lists of texts as arguments: opened. -/
import Derived.Test.YtpdbcahiipbhnaaDoorFrame
import Derived.Test.YtpdbcahiipbhnaaDoorN2
import Derived.Carry
import Derived.Lib.SmallJoins
import Derived.Deep.Slices
namespace Go.Proofs.YtpdbcahiipbhnaaDoor
open Go.ChangeShapes Go.WideShapes Go.ChangeAt Go.RowKit Go.Joins

theorem laid_out : laidOutB Tryd.prog = true := by kernel_rfl
/-- The arguments read as they did. -/
theorem args_back {H : Type} {enc : TypeId × Value → H} {W W' : World} (hb : Below W.heap.size W W') : ∀ {ts : List TypeId} {vs : List Value} {ds : List (DataW H)} {ps : List MemPlace},
    (∀ t ∈ ts, Tryd.prog.readableRec t = true ∧ t < Tryd.prog.types.size) → DataW.TrodAll enc Tryd.prog W 0 (fun _ => true) true ts vs ds ps → (∀ x ∈ ps, x.block < W.heap.size) →
    DataW.TrodAll enc Tryd.prog W' 0 (fun b => decide (b < W.heap.size)) true ts vs ds ps
  | [], [], [], _, _, h, _ => h
  | [], [], _ :: _, _, _, h, _ => h.elim
  | [], _ :: _, _, _, _, h, _ => h.elim
  | _ :: _, [], _, _, _, h, _ => h.elim
  | _ :: _, _ :: _, [], _, _, h, _ => h.elim
  | _ :: _, _ :: _, _ :: _, _, hT, ⟨p, q, h1, h2, e⟩, hs =>
    ⟨p, q, h1.elim fun n hn => Below.trod laid_out (hT _ List.mem_cons_self).1 (hT _ List.mem_cons_self).2 ⟨n, hn⟩ hb (fun x hx => hs x (by rw [e]; exact List.mem_append_left _ hx)),
      args_back hb (fun t ht => hT t (List.mem_cons_of_mem _ ht)) h2 (fun x hx => hs x (by rw [e]; exact List.mem_append_right _ hx)), e⟩
theorem i64_wf {n : Int} (h : (Lit.int .i64 n).wf = true) : I64 n := by simp only [Lit.wf, Bool.and_eq_true, decide_eq_true_eq] at h; exact h
theorem cI : Tryd.prog.cellsOf 3 = 1 := by kernel_rfl
theorem cS : Tryd.prog.cellsOf 9 = 1 := by kernel_rfl
section
variable {H : Type} {enc : TypeId × Value → H} {w : World} {base : Nat} {spare : Nat → Bool} {held : Bool}
theorem field_at {n : Nat} {cs : List Value} {xs : List (DataW H × List MemPlace)} {fs : Array Field} (hg : ∀ (i : Nat) (f : Field), fs[i]? = some f → DataW.trod enc Tryd.prog w base spare held n f.type ((cs.drop f.offset).take (Tryd.prog.cellsOf f.type)) = xs[i]?)
    (i t o c : Nat) (y : DataW H × List MemPlace) (hf : (fs[i]?).map (fun f => (f.type, f.offset)) = some (t, o)) (hc : Tryd.prog.cellsOf t = c) (hy : xs[i]? = some y) : DataW.trod enc Tryd.prog w base spare held n t ((cs.drop o).take c) = some y := by
  obtain ⟨f, h1, h2⟩ := Option.map_eq_some_iff.1 hf
  obtain ⟨rfl, rfl⟩ := Prod.mk.injEq _ _ _ _ ▸ h2
  rw [← hy, ← hc]
  exact hg i f h1
theorem cell_lt {w : World} {a : Addr} {v : Value} (h : w.cell? a = some v) : a.block < w.heap.size := by
  rcases Nat.lt_or_ge a.block w.heap.size with h1 | h1
  · exact h1
  · unfold World.cell? at h; rw [Array.getElem?_eq_none h1] at h; simp at h
theorem addr_eq {a : Addr} (h : a.spot = none) : a = ⟨a.block, a.off, none⟩ := by cases a; simp at h; subst h; rfl
set_option maxRecDepth 100000 in
/-- A list of texts as an argument. -/
theorem open_strings {r : Reach} {b0 : Nat} {v : Value} {d : DataW H} {ps : List MemPlace} (hv : Value.okWide Tryd.prog w r b0 22 v) (h : DataW.Trod enc Tryd.prog w base spare held 22 v d ps) :
    ∃ (l : List ByteArray) (ao : Option Addr) (lb lo c : Nat), v = .slice ao l.length c ∧ StrsAt w ao lb lo l ∧ l.length ≤ 9223372036854775807 ∧ l.length ≤ c := by
  obtain ⟨a0, len0, cap0, rfl⟩ := okWide_slice Tryd.underlying22 hv
  obtain ⟨fuel, hf⟩ := h
  rcases Go.Deep.open_slice1 Tryd.underlying22 cS hf with ⟨hcs, _⟩ | ⟨a, len, cap, m, n, V, D, Pl, hcs, _, hl, hm, hmm, _, hi⟩
  · simp [Value.cells] at hcs
    obtain ⟨rfl, rfl, rfl⟩ := hcs
    exact ⟨[], none, 0, 0, 0, rfl, ⟨fun h => absurd h (by decide), fun i e he => by simp at he⟩, by simp, by simp⟩
  · simp [Value.cells] at hcs
    obtain ⟨rfl, rfl, rfl⟩ := hcs
    have hlm : len0 ≤ m := by rw [hmm]; split <;> omega
    have key : ∀ i, i < len0 → ∃ s : ByteArray, w.cell? (a.add i) = some (.string s) := fun i hii => by
      obtain ⟨hc, ht⟩ := hi i (by omega)
      obtain ⟨s, e, _, _⟩ := DataW.trod_string Tryd.underlying9 ht
      simp at e
      exact ⟨s, by rw [hc, e]⟩
    have : ∃ f : Nat → ByteArray, ∀ i, i < len0 → w.cell? (a.add i) = some (.string (f i)) := by
      refine ⟨fun i => if h : i < len0 then Classical.choose (key i h) else ⟨#[]⟩, fun i h => ?_⟩
      simp only [dif_pos h]
      exact Classical.choose_spec (key i h)
    obtain ⟨f, hf'⟩ := this
    have hlen : ((List.range len0).map f).length = len0 := by simp
    have hsp : 0 < len0 → a = ⟨a.block, a.off, none⟩ ∧ a.block < w.heap.size := fun h0 => by
      have hc := hf' 0 h0
      have hc2 : w.cell? a = some (.string (f 0)) := by simpa [Addr.add] using hc
      exact ⟨addr_eq (World.cell?_spot hc2), cell_lt hc2⟩
    refine ⟨(List.range len0).map f, some a, a.block, a.off, cap0, by rw [hlen], ⟨fun h0 => ?_, fun i e he => ?_⟩, by rw [hlen]; unfold maxLen at hm; omega, by rw [hlen]; exact hl⟩
    · rw [hlen] at h0
      exact ⟨congrArg some (hsp h0).1, (hsp h0).2⟩
    · have hii : i < len0 := by have := (List.getElem?_eq_some_iff.1 he).1; simpa using this
      have hee : e = f i := by
        rw [List.getElem?_map, List.getElem?_range hii] at he
        simpa using he.symm
      subst hee
      have ha := (hsp (by omega)).1
      have := hf' i hii
      rw [ha, Addr.add_mid] at this
      exact this
end
end Go.Proofs.YtpdbcahiipbhnaaDoor
