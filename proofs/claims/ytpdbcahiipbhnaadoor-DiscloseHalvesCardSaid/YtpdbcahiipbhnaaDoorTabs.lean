/- The tables that the program's text lays, as facts on the world; they stay as they are behind any call that leaves old memory alone. -/
import Derived.Test.YtpdbcahiipbhnaaDoorA1
import Derived.Lib.LaidTab
import Derived.Lib.ItoaNum
namespace Go.Proofs.YtpdbcahiipbhnaaDoor
open Go.RowKit

structure Tabs (w : World) : Prop where
  first : w.rangeAt 0 0 (Sha.wv Sha.init.toList)
  consts : w.rangeAt 1 0 (Sha.wv Sha.Ks)
  bruijn : w.cell? ⟨4, 15, none⟩ = some (.int .u8 4)
  pow10 : Lib.TabIs Tryd.prog w "internal/strconv.uint64pow10" .u64 Lib.pow10Tab
  ltFirst : 0 < w.heap.size
  ltConsts : 1 < w.heap.size
  ltBruijn : 4 < w.heap.size
  ltPow10 : 2 < w.heap.size

theorem gPow10 : Tryd.prog.globalNamed "internal/strconv.uint64pow10" = some 2 := by kernel_rfl

theorem tabIs_block {w w' : World} {k : IntKind} {zs : List Int} {n : String} {g : Nat} (hg : Tryd.prog.globalNamed n = some g) (h : Lib.TabIs Tryd.prog w n k zs) (e : w'.heap[g]? = w.heap[g]?) : Lib.TabIs Tryd.prog w' n k zs := by
  unfold Lib.TabIs at *
  rw [← h]
  simp only [World.var?, hg, Option.bind_some, e]

theorem Tabs.below {w w' : World} {B : Nat} (h : Tabs w) (hb : Below B w w') (hB : w.heap.size ≤ B) : Tabs w' := by
  have h1 := h.ltFirst; have h2 := h.ltConsts; have h3 := h.ltBruijn; have h4 := h.ltPow10
  have hs := hb.size
  exact ⟨rangeAt_below h.first hb (by omega), rangeAt_below h.consts hb (by omega), (hb.cell (p := ⟨4, 15, none⟩) (by show 4 < B; omega)).trans h.bruijn, tabIs_block gPow10 h.pow10 (hb.block _ (by omega)), by omega, by omega, by omega, by omega⟩
theorem Tabs.alloc {w : World} (h : Tabs w) (o : Obj) : Tabs (w.alloc o) := h.below ((Below.refl _ _).alloc (Nat.le_refl _) o) (Nat.le_refl _)
theorem Tabs.drew {w : World} (h : Tabs w) : Tabs w.drew := h.below (Below.refl _ _).drew (Nat.le_refl _)
end Go.Proofs.YtpdbcahiipbhnaaDoor
