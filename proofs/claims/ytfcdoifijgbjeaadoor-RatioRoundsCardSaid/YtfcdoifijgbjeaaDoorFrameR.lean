/- What every card of layer 01 shares: the tables and error variables as the row lists them, a world for the witness, a ratio opened and shut. -/
import Derived.Test.YtfcdoifijgbjeaaDoorCards
import Derived.Test.YtfcdoifijgbjeaaDoorTie
import Derived.Test.YtfcdoifijgbjeaaDoorTabsR
import Derived.Test.YtfcdoifijgbjeaaDoorItoa
import Derived.WalkKit
import Derived.ProofKit
import Derived.OpenShut
import Derived.ShutString
import Derived.ChangeOld
import Derived.Below
import Derived.Deep.DeepHandedRow
import Derived.Lib.LaidTab
import Derived.Lib.SmallJoins
namespace Go.Proofs.YtfcdoifijgbjeaaDoor
open Go.ChangeShapes Go.WideShapes Go.ChangeAt Go.RowKit Go.Joins

theorem own : ownKnob Tryd.prog.godebug = none := by kernel_rfl

theorem tabIs_of_at {P : Program} {W : World} {name : String} {k : IntKind} {zs : List Int} {g : Nat} {t e : TypeId} {n : Nat}
    (hg : P.globalNamed name = some g) (hty : (P.globals[g]?).map (·.type) = some t) (ht : P.underlying t = some (.array n e)) (he : P.underlying e = some (.int k)) (hce : P.cellsOf e = 1) (hct : P.cellsOf t = n) :
    ∀ (l : List (String × DataW Unit)) (i : Nat) (ps : List MemPlace), l[i]? = some (name, Lib.tabData k zs) → DataW.LaidVars P W l ps → Lib.TabIs P W name k zs
  | [], i, ps, hl, _ => by simp at hl
  | (n', d) :: r, 0, ps, hl, h => by
    simp only [List.getElem?_cons_zero, Option.some.injEq, Prod.mk.injEq] at hl
    obtain ⟨rfl, rfl⟩ := hl
    obtain ⟨g', t', cs, fuel, p, q, hg', ht', hvar, hd, _, _⟩ := h
    obtain rfl := Option.some.inj (hg.symm.trans hg')
    obtain rfl := Option.some.inj (hty.symm.trans ht')
    unfold Lib.TabIs
    rw [hvar, ← Lib.cells_of_tab ht he hce hct hd]
  | (n', d) :: r, i + 1, ps, hl, h => by
    obtain ⟨g', t', cs, fuel, p, q, hg', ht', hvar, hd, hr, _⟩ := h
    exact tabIs_of_at hg hty ht he hce hct r i q (by simpa using hl) hr
theorem tabIs_lt {P : Program} {W : World} {name : String} {k : IntKind} {zs : List Int} {g : Nat} (h : Lib.TabIs P W name k zs) (hg : P.globalNamed name = some g) : g < W.heap.size := by
  unfold Lib.TabIs at h
  simp only [World.var?, hg, Option.bind_some] at h
  cases hx : W.heap[g]? with
  | none => rw [hx] at h; simp at h
  | some o => exact (Array.getElem?_eq_some_iff.1 hx).1

theorem trod_ifc {P : Program} {W : World} {H : Type} {enc : TypeId × Value → H} {base : Nat} {spare : Nat → Bool} {held : Bool} {t : TypeId} {ms : Array (String × TypeId)} {cs : List Value} {x : DataW H × List MemPlace}
    (ht : P.underlying t = some (.interface ms)) : ∀ {fuel : Nat}, DataW.trod enc P W base spare held fuel t cs = some x → ∃ ev, cs = [ev] ∧ (ev = .nilIface ∨ ∃ te pe, ev = .iface te pe)
  | 0, h => by simp [DataW.trod] at h
  | fuel + 1, h => by
    unfold DataW.trod at h
    rw [ht] at h
    split at h <;> first | (rename_i e _; cases e; done) | exact ⟨_, rfl, .inl rfl⟩ | exact ⟨_, rfl, .inr ⟨_, _, rfl⟩⟩ | simp_all
/-- A listed variable of an interface type holds nil or a value of some type. -/
theorem iface_of_at {P : Program} {W : World} {name : String} {g : Nat} {t : TypeId} {ms : Array (String × TypeId)}
    (hg : P.globalNamed name = some g) (hty : (P.globals[g]?).map (·.type) = some t) (ht : P.underlying t = some (.interface ms)) :
    ∀ (l : List (String × DataW Unit)) (i : Nat) (ps : List MemPlace), (l[i]?).map (·.1) = some name → DataW.LaidVars P W l ps → ∃ ev, W.cell? ⟨g, 0, none⟩ = some ev ∧ (ev = .nilIface ∨ ∃ te pe, ev = .iface te pe)
  | [], i, ps, hl, _ => by simp at hl
  | (n', d) :: r, 0, ps, hl, h => by
    simp only [List.getElem?_cons_zero, Option.map_some, Option.some.injEq] at hl
    subst hl
    obtain ⟨g', t', cs, fuel, p, q, hg', ht', hvar, hd, _, _⟩ := h
    obtain rfl := Option.some.inj (hg.symm.trans hg')
    obtain rfl := Option.some.inj (hty.symm.trans ht')
    obtain ⟨ev, hcs, hev⟩ := trod_ifc ht hd
    refine ⟨ev, ?_, hev⟩
    have h1 := World.var?_cell hg hvar 0
    rw [h1]
    obtain ⟨cs⟩ := cs
    simp only at hcs
    subst hcs
    rfl
  | (n', d) :: r, i + 1, ps, hl, h => by
    obtain ⟨g', t', cs, fuel, p, q, hg', ht', hvar, hd, hr, _⟩ := h
    exact iface_of_at hg hty ht r i q (by simpa using hl) hr
theorem cell_lt {w : World} {g : Nat} {v : Value} (h : w.cell? ⟨g, 0, none⟩ = some v) : g < w.heap.size := by
  rcases Nat.lt_or_ge g w.heap.size with h1 | h1
  · exact h1
  · simp [World.cell?, Array.getElem?_eq_none h1] at h

/-- The tables hold what the row lists. -/
theorem tabs_of_laid {W : World} {l : List (String × DataW Unit)} (h : laidMet Tryd.prog l W) (hsh : W.ShapedOpen Tryd.prog) (i j k : Nat) (e : l[i]? = some ("internal/strconv.uint64pow10", Lib.tabData .u64 Lib.pow10Tab)) (eR : (l[j]?).map (·.1) = some "strconv.ErrRange") (eS : (l[k]?).map (·.1) = some "strconv.ErrSyntax") : Tabs W := by
  obtain ⟨ps, h, _⟩ := h
  have t4 := tabIs_of_at gPow10 (show (Tryd.prog.globals[3]?).map (·.type) = some 93 by kernel_rfl) Tryd.underlying93 Tryd.underlying29 (by kernel_rfl) (by kernel_rfl) l i ps e h
  have mx : ∃ m, W.cell? ⟨0, 0, none⟩ = some (.int .i64 m) := Tryd.laysM145.s1_3 W hsh
  have eS := iface_of_at (show Tryd.prog.globalNamed "strconv.ErrSyntax" = some 1 by kernel_rfl) (show (Tryd.prog.globals[1]?).map (·.type) = some 60 by kernel_rfl) Tryd.underlying60 l k ps eS h
  have eR := iface_of_at (show Tryd.prog.globalNamed "strconv.ErrRange" = some 2 by kernel_rfl) (show (Tryd.prog.globals[2]?).map (·.type) = some 60 by kernel_rfl) Tryd.underlying60 l j ps eR h
  obtain ⟨m, hm⟩ := mx
  obtain ⟨s, hs, _⟩ := id eS
  obtain ⟨r, hr, _⟩ := id eR
  exact ⟨t4, ⟨m, hm⟩, eS, eR, tabIs_lt t4 gPow10, cell_lt hm, cell_lt hs, cell_lt hr⟩

/-- A world for the witness: the settled one, each listed table holding what the row lists, each error variable an error of its text. -/
noncomputable def low : Nat := (World.holding Tryd.prog default ⟨#[], #[], []⟩).heap.size
def tabCells (l : List (DataW Unit)) : Array Value := (l.map fun | .lit (.int k n) => Value.int k n | _ => .bool false).toArray
noncomputable def layAll (l : List (String × DataW Unit)) (h : Array Obj) : Array Obj :=
  l.foldl (fun h x => h.modify ((Tryd.prog.globalNamed x.1).getD 0) fun
      | .cells c t frozen => (match x.2 with | .agg y => .cells (tabCells y) t frozen | _ => .cells c t frozen)
      | o => o) h
def errText : DataW Unit → ByteArray
  | .iface _ (.ptr (.agg [.lit (.string s)])) => ⟨s.toArray⟩
  | _ => ⟨#[]⟩
noncomputable def laidWorld (l : List (String × DataW Unit)) (os : Os) : World :=
  let w0 := World.holding Tryd.prog os ⟨#[.cells #[.string (errText Rows.laid_strconv_ErrRange)] 103, .cells #[.string (errText Rows.laid_strconv_ErrSyntax)] 103], #[], []⟩
  { w0 with heap := ((layAll l w0.heap).modify 2 fun
      | .cells _ t frozen => .cells #[.iface 101 (.pointer (some ⟨low, 0, none⟩))] t frozen
      | o => o).modify 1 fun
      | .cells _ t frozen => .cells #[.iface 101 (.pointer (some ⟨low + 1, 0, none⟩))] t frozen
      | o => o }

set_option maxRecDepth 100000 in
theorem open_ratio {H : Type} {enc : TypeId × Value → H} {w : World} {base b0 : Nat} {spare : Nat → Bool} {held : Bool} {r : Reach} {v : Value} {d : DataW H} {ps : List MemPlace}
    (hval : Value.okWide Tryd.prog w r b0 25 v) (hd : DataW.Trod enc Tryd.prog w base spare held 25 v d ps) :
    ∃ a b, v = .agg #[.int .i64 a, .int .i64 b] ∧ d = .agg [.lit (.int .i64 a), .lit (.int .i64 b)] ∧ ps = [] ∧ (Lit.int .i64 a).wf = true ∧ (Lit.int .i64 b).wf = true := by
  obtain ⟨v0, v1, y0, y1, n, rfl, rfl, rfl, h0, h1⟩ := open_agg2 Tryd.underlying25 (by kernel_rfl) (by kernel_rfl) hval hd
  obtain ⟨a, ha, hx, hw⟩ := DataW.trod_int Tryd.underlying3 h0
  obtain ⟨b, hb, hy, hw'⟩ := DataW.trod_int Tryd.underlying3 h1
  simp only [List.cons.injEq, and_true] at ha hb
  subst ha hb hx hy
  exact ⟨a, b, rfl, rfl, rfl, hw, hw'⟩
set_option maxRecDepth 100000 in
theorem shut_ratio {H : Type} {enc : TypeId × Value → H} {w : World} {base : Nat} {spare : Nat → Bool} {held : Bool} {a b : Int} (ha : (Lit.int .i64 a).wf = true) (hb : (Lit.int .i64 b).wf = true) :
    DataW.Trod enc Tryd.prog w base spare held 25 (.agg #[.int .i64 a, .int .i64 b]) (.agg [.lit (.int .i64 a), .lit (.int .i64 b)]) [] :=
  shut_agg2 (y0 := (.lit (.int .i64 a), [])) (y1 := (.lit (.int .i64 b), [])) Tryd.underlying25 (by kernel_rfl) (by kernel_rfl)
    ⟨1, by simp [DataW.trod, Tryd.underlying3, ha]⟩ ⟨1, by simp [DataW.trod, Tryd.underlying3, hb]⟩
theorem wf_I64 {x : Int} (h : (Lit.int .i64 x).wf = true) : -9223372036854775808 ≤ x ∧ x ≤ 9223372036854775807 := by
  simp only [Lit.wf, Bool.and_eq_true, decide_eq_true_eq] at h
  exact h
end Go.Proofs.YtfcdoifijgbjeaaDoor
