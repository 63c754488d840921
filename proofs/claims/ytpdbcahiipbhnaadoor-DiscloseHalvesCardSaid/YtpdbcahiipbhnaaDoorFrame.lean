/- What every card of this seat shares: the tables as the row lists them, a world for the witness. -/
import Derived.Test.YtpdbcahiipbhnaaDoorCards
import Derived.Test.YtpdbcahiipbhnaaDoorTie
import Derived.Test.YtpdbcahiipbhnaaDoorTabs
import Derived.WalkKit
import Derived.ProofKit
import Derived.OpenShut
import Derived.ShutString
import Derived.ChangeOld
import Derived.Below
import Derived.Deep.DeepHandedRow
import Derived.Lib.LaidTab
namespace Go.Proofs.YtpdbcahiipbhnaaDoor
open Go.ChangeShapes Go.WideShapes Go.ChangeAt Go.RowKit

theorem own : ownKnob Tryd.prog.godebug = none := by kernel_rfl

theorem tabIs_of_at {P : Program} {W : World} {name : String} {k : IntKind} {zs : List Int} {g : Nat} {t e : TypeId} {n : Nat}
    (hg : P.globalNamed name = some g) (hty : (P.globals[g]?).map (·.type) = some t) (ht : P.underlying t = some (.array n e)) (he : P.underlying e = some (.int k)) (hce : P.cellsOf e = 1) (hct : P.cellsOf t = n) :
    ∀ (l : List (String × DataW Unit)) (i : Nat) (ps : List MemPlace), l[i]? = some (name, Lib.tabData k zs) → DataW.LaidVars P W l ps → Lib.TabIs P W name k zs
  | [], i, ps, hl, _ => by simp at hl
  | (n', d) :: r, 0, ps, hl, h => by
    simp only [List.getElem?_cons_zero, Option.some.injEq, Prod.mk.injEq] at hl
    obtain ⟨rfl, rfl⟩ := hl
    obtain ⟨g', t', cs, fuel, p, q, hg', ht', hvar, hd, _, _⟩ := h
    obtain rfl := Option.some.inj (hg.symm.trans hg')
    obtain rfl := Option.some.inj (hty.symm.trans ht')
    unfold Lib.TabIs
    rw [hvar, ← Lib.cells_of_tab ht he hce hct hd]
  | (n', d) :: r, i + 1, ps, hl, h => by
    obtain ⟨g', t', cs, fuel, p, q, hg', ht', hvar, hd, hr, _⟩ := h
    exact tabIs_of_at hg hty ht he hce hct r i q (by simpa using hl) hr

theorem tabIs_range {P : Program} {W : World} {name : String} {k : IntKind} {zs : List Int} {g : Nat} (h : Lib.TabIs P W name k zs) (hg : P.globalNamed name = some g) (vs : List Value) (hv : vs = zs.map fun z => Value.int k z) : W.rangeAt g 0 vs := by
  subst hv
  intro j v hj
  have h1 := World.var?_cell hg h j
  rw [Nat.zero_add, h1]
  simpa using hj
theorem tabIs_lt {P : Program} {W : World} {name : String} {k : IntKind} {zs : List Int} {g : Nat} (h : Lib.TabIs P W name k zs) (hg : P.globalNamed name = some g) : g < W.heap.size := by
  unfold Lib.TabIs at h
  simp only [World.var?, hg, Option.bind_some] at h
  cases hx : W.heap[g]? with
  | none => rw [hx] at h; simp at h
  | some o => exact (Array.getElem?_eq_some_iff.1 hx).1

theorem gFirst : Tryd.prog.globalNamed "estoppel/digest.first" = some 0 := by kernel_rfl
theorem gConsts : Tryd.prog.globalNamed "estoppel/digest.constants" = some 1 := by kernel_rfl
theorem gBruijn : Tryd.prog.globalNamed "math/bits.deBruijn64tab" = some 4 := by kernel_rfl

/-- The tables hold what the row lists. -/
theorem tabs_of_laid {W : World} {l : List (String × DataW Unit)} (h : laidMet Tryd.prog l W) (i1 i2 i3 i4 : Nat)
    (e1 : l[i1]? = some ("estoppel/digest.first", Lib.tabData .u32 (Sha.init.toList.map fun x => (x.toNat : Int))))
    (e2 : l[i2]? = some ("estoppel/digest.constants", Lib.tabData .u32 (Sha.Ks.map fun x => (x.toNat : Int))))
    (e3 : l[i3]? = some ("math/bits.deBruijn64tab", Lib.tabData .u8 [0, 1, 56, 2, 57, 49, 28, 3, 61, 58, 42, 50, 38, 29, 17, 4, 62, 47, 59, 36, 45, 43, 51, 22, 53, 39, 33, 30, 24, 18, 12, 5, 63, 55, 48, 27, 60, 41, 37, 16, 46, 35, 44, 21, 52, 32, 23, 11, 54, 26, 40, 15, 34, 20, 31, 10, 25, 14, 19, 9, 13, 8, 7, 6]))
    (e4 : l[i4]? = some ("internal/strconv.uint64pow10", Lib.tabData .u64 Lib.pow10Tab)) : Tabs W := by
  obtain ⟨ps, h, _⟩ := h
  have t1 := tabIs_of_at gFirst (show (Tryd.prog.globals[0]?).map (·.type) = some 108 by kernel_rfl) Tryd.underlying108 Tryd.underlying107 (by kernel_rfl) (by kernel_rfl) l i1 ps e1 h
  have t2 := tabIs_of_at gConsts (show (Tryd.prog.globals[1]?).map (·.type) = some 133 by kernel_rfl) Tryd.underlying133 Tryd.underlying107 (by kernel_rfl) (by kernel_rfl) l i2 ps e2 h
  have t3 := tabIs_of_at gBruijn (show (Tryd.prog.globals[4]?).map (·.type) = some 155 by kernel_rfl) Tryd.underlying155 Tryd.underlying5 (by kernel_rfl) (by kernel_rfl) l i3 ps e3 h
  have t4 := tabIs_of_at gPow10 (show (Tryd.prog.globals[2]?).map (·.type) = some 150 by kernel_rfl) Tryd.underlying150 Tryd.underlying111 (by kernel_rfl) (by kernel_rfl) l i4 ps e4 h
  exact ⟨tabIs_range t1 gFirst _ (by simp [Sha.wv]), tabIs_range t2 gConsts _ (by simp [Sha.wv]), t3.cell gBruijn 15 (by decide), t4, tabIs_lt t1 gFirst, tabIs_lt t2 gConsts, tabIs_lt t3 gBruijn, tabIs_lt t4 gPow10⟩

/-- The cells of a listed table. -/
def tabCells : DataW Unit → Array Value
  | .agg l => (l.map fun | .lit (.int k n) => Value.int k n | _ => .bool false).toArray
  | _ => #[]
/-- A world for the witness: the settled one, each listed table holding what the row lists. -/
noncomputable def layAll (l : List (String × DataW Unit)) (h : Array Obj) : Array Obj :=
  l.foldl (fun h x => h.modify ((Tryd.prog.globalNamed x.1).getD 0) fun
      | .cells _ t frozen => .cells (tabCells x.2) t frozen
      | o => o) h
noncomputable def laidWorld (l : List (String × DataW Unit)) (os : Os) : World :=
  { World.holding Tryd.prog os ⟨#[], #[], []⟩ with heap := layAll l (World.holding Tryd.prog os ⟨#[], #[], []⟩).heap }
end Go.Proofs.YtpdbcahiipbhnaaDoor
