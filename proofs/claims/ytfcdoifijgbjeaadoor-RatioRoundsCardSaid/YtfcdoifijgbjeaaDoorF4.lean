/- RatioOrder: two cells that are written again. -/
import Derived.Test.YtfcdoifijgbjeaaDoorF1
namespace Go.Proofs.YtfcdoifijgbjeaaDoor
open Go.RowKit

/-- Two cells of a block of the call's own that may be written. -/
@[irreducible] def D2 (w : World) (n : Nat) (a b : Value) : Prop := C2 w n a b ∧ w.frozen? ⟨n, 0, none⟩ = false ∧ w.frozen? ⟨n, 1, none⟩ = false
theorem D2.c2 {w : World} {n : Nat} {a b : Value} (h : D2 w n a b) : C2 w n a b := by unfold D2 at h; exact h.1
theorem D2.cells {w : World} {n : Nat} {a b : Value} (h : D2 w n a b) : w.cell? ⟨n, 0, none⟩ = some a ∧ w.cell? ⟨n, 1, none⟩ = some b := h.c2.cells
theorem D2.frozen {w : World} {n : Nat} {a b : Value} (h : D2 w n a b) : w.frozen? ⟨n, 0, none⟩ = false ∧ w.frozen? ⟨n, 1, none⟩ = false := by unfold D2 at h; exact h.2
theorem D2.mk {w : World} {n : Nat} {a b : Value} (h : C2 w n a b) (h2 : w.frozen? ⟨n, 0, none⟩ = false ∧ w.frozen? ⟨n, 1, none⟩ = false) : D2 w n a b := by unfold D2; exact ⟨h, h2⟩
theorem D2.step {w w' : World} {n : Nat} {a b : Value} (h : D2 w n a b) (hb : Below w.heap.size w w') : D2 w' n a b :=
  .mk (h.c2.step hb) ⟨(hb.frozen (p := ⟨n, 0, none⟩) h.c2.lt).trans h.frozen.1, (hb.frozen (p := ⟨n, 1, none⟩) h.c2.lt).trans h.frozen.2⟩
theorem D2.alloc {w : World} {n : Nat} {a b : Value} (h : D2 w n a b) (o : Obj) : D2 (w.alloc o) n a b := h.step ((Below.refl _ _).alloc (Nat.le_refl _) o)
theorem D2.new (w : World) (a b : Value) (t : TypeId) : D2 (w.alloc (.cells #[a, b] t)) w.heap.size a b := by
  have t0 := there_new w #[a, b] t 2 (by simp)
  have k0 := (t0 0 (by omega)).2
  have k1 := (t0 1 (by omega)).2
  rw [Nat.zero_add] at k0 k1
  exact .mk (C2.new w a b t) ⟨k0, k1⟩
theorem there_set {w : World} {g o n : Nat} (h : w.there g o n) (p : Addr) (u : Value) : (w.setCell p u).there g o n := fun j hj => by
  obtain ⟨h1, h2⟩ := h j hj
  exact ⟨isSome_setCell h1, by rw [World.frozen?_setCell]; exact h2⟩
theorem D2.set {w : World} {n : Nat} {x y : Value} (h : D2 w n x y) (a b : Value) : D2 ((w.setCell ⟨n, 0, none⟩ a).setCell ⟨n, 1, none⟩ b) n a b :=
  .mk (C2_set h.cells.1 h.cells.2 h.c2.lt) (by simp only [World.frozen?_setCell]; exact h.frozen)
theorem C2.set_other {w : World} {n m : Nat} {x y : Value} (h : C2 w n x y) (hnm : n ≠ m) (a b : Value) : C2 ((w.setCell ⟨m, 0, none⟩ a).setCell ⟨m, 1, none⟩ b) n x y := by
  have r : w.rangeAt n 0 [x, y] := fun j u hj => by
    match j, hj with
    | 0, hj => simp at hj; subst hj; simpa using h.cells.1
    | 1, hj => simp at hj; subst hj; simpa using h.cells.2
  have r2 := rangeAt_setOther (rangeAt_setOther r ⟨m, 0, none⟩ hnm a) ⟨m, 1, none⟩ hnm b
  exact .mk (by simpa using h.lt) ⟨r2 0 _ rfl, r2 1 _ rfl⟩
theorem D2.set_other {w : World} {n m : Nat} {x y : Value} (h : D2 w n x y) (hnm : n ≠ m) (a b : Value) : D2 ((w.setCell ⟨m, 0, none⟩ a).setCell ⟨m, 1, none⟩ b) n x y :=
  .mk (h.c2.set_other hnm a b) (by simp only [World.frozen?_setCell]; exact h.frozen)
theorem Trk.set {w0 w : World} {n : Nat} (h : Trk w0 w) (h0 : Tabs w0) (hn : w0.heap.size ≤ n) (a b : Value) : Trk w0 ((w.setCell ⟨n, 0, none⟩ a).setCell ⟨n, 1, none⟩ b) := by
  have hb := (h.bel.setCell (p := ⟨n, 0, none⟩) hn a).setCell (p := ⟨n, 1, none⟩) hn b
  exact ⟨h0.below hb (Nat.le_refl _), hb⟩
end Go.Proofs.YtfcdoifijgbjeaaDoor
