/- The tables and variables that layer 01 reads, as facts on the world. -/
import Derived.Test.YtfcdoifijgbjeaaDoorLib
import Derived.Test.YtfcdoifijgbjeaaDoorChecked
import Derived.Lib.LaidTab
import Derived.Lib.ItoaNum
namespace Go.Proofs.YtfcdoifijgbjeaaDoor
open Go.RowKit

structure Tabs (w : World) : Prop where
  pow10 : Lib.TabIs Tryd.prog w "internal/strconv.uint64pow10" .u64 Lib.pow10Tab
  mx : ∃ m, w.cell? ⟨0, 0, none⟩ = some (.int .i64 m)
  eS : ∃ ev, w.cell? ⟨1, 0, none⟩ = some ev ∧ (ev = .nilIface ∨ ∃ te pe, ev = .iface te pe)
  eR : ∃ ev, w.cell? ⟨2, 0, none⟩ = some ev ∧ (ev = .nilIface ∨ ∃ te pe, ev = .iface te pe)
  lt : 3 < w.heap.size ∧ 0 < w.heap.size ∧ 1 < w.heap.size ∧ 2 < w.heap.size

theorem gPow10 : Tryd.prog.globalNamed "internal/strconv.uint64pow10" = some 3 := by kernel_rfl

theorem tabIs_block {w w' : World} {k : IntKind} {zs : List Int} {n : String} {g : Nat} (hg : Tryd.prog.globalNamed n = some g) (h : Lib.TabIs Tryd.prog w n k zs) (e : w'.heap[g]? = w.heap[g]?) : Lib.TabIs Tryd.prog w' n k zs := by
  unfold Lib.TabIs at *
  rw [← h]
  simp only [World.var?, hg, Option.bind_some, e]

theorem Tabs.below {w w' : World} {B : Nat} (h : Tabs w) (hb : Below B w w') (hB : w.heap.size ≤ B) : Tabs w' := by
  obtain ⟨h1, h2, h3, h4⟩ := h.lt
  have hs := hb.size
  obtain ⟨m, hm⟩ := h.mx
  obtain ⟨s, hs1, hs2⟩ := h.eS
  obtain ⟨r, hr1, hr2⟩ := h.eR
  exact ⟨tabIs_block gPow10 h.pow10 (hb.block _ (by omega)), ⟨m, (hb.cell (p := ⟨0, 0, none⟩) (by show 0 < B; omega)).trans hm⟩,
    ⟨s, (hb.cell (p := ⟨1, 0, none⟩) (by show 1 < B; omega)).trans hs1, hs2⟩, ⟨r, (hb.cell (p := ⟨2, 0, none⟩) (by show 2 < B; omega)).trans hr1, hr2⟩, by omega, by omega, by omega, by omega⟩
theorem Tabs.alloc {w : World} (h : Tabs w) (o : Obj) : Tabs (w.alloc o) := h.below ((Below.refl _ _).alloc (Nat.le_refl _) o) (Nat.le_refl _)
theorem Tabs.drew {w : World} (h : Tabs w) : Tabs w.drew := h.below (Below.refl _ _).drew (Nat.le_refl _)
end Go.Proofs.YtfcdoifijgbjeaaDoor
