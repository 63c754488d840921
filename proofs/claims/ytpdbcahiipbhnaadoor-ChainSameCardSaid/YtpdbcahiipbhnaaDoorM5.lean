/- Layer 31: chain.Check. -/
import Derived.Test.YtpdbcahiipbhnaaDoorM4
import Derived.LoopN
import Derived.Deep.LoopGhost
import Derived.WalkMore
import Derived.Laws.EntriesVeiled
import Derived.Deep.DeepCutAuto
import Derived.Deep.RegionWith
namespace Go.Proofs.YtpdbcahiipbhnaaDoor
open Go.RowKit

/-- An entry. -/
structure Ent where
  house : Int
  seq : Int
  day : Int
  prev : ByteArray
  body : ByteArray
  r : Int
  s : Int
/-- An entry's numbers and texts are within bounds. -/
structure Ent.Ok (e : Ent) : Prop where
  house : I64 e.house
  seq : I64 e.seq
  day : I64 e.day
  r : I64 e.r
  s : I64 e.s
  prev : e.prev.size ≤ 40000
  body : e.body.size ≤ 40000
abbrev Ent.dig (e : Ent) : ByteArray := digE e.house e.seq e.day e.prev e.body e.r e.s
abbrev Ent.sgd (e : Ent) (y : Int) : Bool := sgdE y e.house e.seq e.day e.prev e.body e.r e.s
/-- Seven cells of an entry of a list. -/
abbrev AtE (w : World) (n o : Nat) (e : Ent) : Prop := w.cell? ⟨n, o, none⟩ = some (.int .i64 e.house) ∧ w.cell? ⟨n, o + 1, none⟩ = some (.int .i64 e.seq) ∧ w.cell? ⟨n, o + 2, none⟩ = some (.int .i64 e.day) ∧ w.cell? ⟨n, o + 3, none⟩ = some (.string e.prev) ∧ w.cell? ⟨n, o + 4, none⟩ = some (.string e.body) ∧ w.cell? ⟨n, o + 5, none⟩ = some (.int .i64 e.r) ∧ w.cell? ⟨n, o + 6, none⟩ = some (.int .i64 e.s)
/-- A list of entries in memory: behind the address ao (block lb, offset lo, unless the list is empty). -/
structure EntsAt (w : World) (ao : Option Addr) (lb lo : Nat) (l : List Ent) : Prop where
  ao : 0 < l.length → ao = some ⟨lb, lo, none⟩ ∧ lb < w.heap.size
  at_ : ∀ i e, l[i]? = some e → AtE w lb (lo + i * 7) e
theorem EntsAt.step {w w' : World} {ao : Option Addr} {lb lo : Nat} {l : List Ent} (h : EntsAt w ao lb lo l) (hb : Below w.heap.size w w') : EntsAt w' ao lb lo l :=
  ⟨fun hl => ⟨(h.ao hl).1, Nat.lt_of_lt_of_le (h.ao hl).2 hb.size⟩, fun i e he => by
    have hl := (h.ao (by have := (List.getElem?_eq_some_iff.1 he).1; omega)).2
    obtain ⟨c0, c1, c2, c3, c4, c5, c6⟩ := h.at_ i e he
    exact ⟨(hb.cell (p := ⟨lb, lo + i * 7, none⟩) hl).trans c0, (hb.cell (p := ⟨lb, lo + i * 7 + 1, none⟩) hl).trans c1, (hb.cell (p := ⟨lb, lo + i * 7 + 2, none⟩) hl).trans c2, (hb.cell (p := ⟨lb, lo + i * 7 + 3, none⟩) hl).trans c3, (hb.cell (p := ⟨lb, lo + i * 7 + 4, none⟩) hl).trans c4, (hb.cell (p := ⟨lb, lo + i * 7 + 5, none⟩) hl).trans c5, (hb.cell (p := ⟨lb, lo + i * 7 + 6, none⟩) hl).trans c6⟩⟩

/-- What is wrong with an entry (0: nothing), by the four rules. -/
def wrongE (ho y : Int) (i : Nat) (pd : Int) (pv : ByteArray) (e : Ent) : Int :=
  if ¬ e.body.size ≤ 2000 then 3 else if ¬ (e.house = ho ∧ e.seq = i ∧ 0 ≤ e.day ∧ e.day ≤ 2000) then 1 else if ¬ pd ≤ e.day then 15 else if ¬ (e.prev = pv ∧ e.sgd y = true) then 17 else 0
/-- The check from an entry on. -/
def chkFrom (ho y : Int) : Nat → Int → ByteArray → List Ent → Int × Int
  | _, _, _, [] => (0, -1)
  | i, pd, pv, e :: l => if wrongE ho y i pd pv e = 0 then chkFrom ho y (i + 1) e.day e.dig l else (wrongE ho y i pd pv e, i)

/-- The check's own boxes: the house, the key, the entry before, its digest. -/
structure Chk (w0 w : World) (n : Nat) (ho y pd : Int) (pv : ByteArray) : Prop where
  trk : Trk w0 w
  lt : n + 4 ≤ w.heap.size
  cho : w.cell? ⟨n, 0, none⟩ = some (.int .i64 ho)
  cy : w.cell? ⟨n + 1, 0, none⟩ = some (.int .i64 y)
  bef : w.there (n + 2) 0 7
  cpd : w.cell? ⟨n + 2, 2, none⟩ = some (.int .i64 pd)
  prv : w.there (n + 3) 0 1
  cpv : w.cell? ⟨n + 3, 0, none⟩ = some (.string pv)
theorem Chk.step {w0 w w' : World} {n : Nat} {ho y pd : Int} {pv : ByteArray} (h : Chk w0 w n ho y pd pv) (hb : Below w.heap.size w w') : Chk w0 w' n ho y pd pv := by
  have hl := h.lt
  have hs := hb.size
  exact ⟨h.trk.step hb, by omega, (hb.cell (p := ⟨n, 0, none⟩) (by show n < _; omega)).trans h.cho, (hb.cell (p := ⟨n + 1, 0, none⟩) (by show n + 1 < _; omega)).trans h.cy, there_below h.bef hb (by omega), (hb.cell (p := ⟨n + 2, 2, none⟩) (by show n + 2 < _; omega)).trans h.cpd, there_below h.prv hb (by omega), (hb.cell (p := ⟨n + 3, 0, none⟩) (by show n + 3 < _; omega)).trans h.cpv⟩
theorem Chk.start {w : World} (ho y : Int) (ht : Tabs w) (t1 t2 t3 : TypeId) :
    Chk w ((((w.alloc (.cells #[.int .i64 ho] t1)).alloc (.cells #[.int .i64 y] t1)).alloc (.cells #[.int .i64 0, .int .i64 0, .int .i64 0, .string ⟨#[]⟩, .string ⟨#[]⟩, .int .i64 0, .int .i64 0] t2)).alloc (.cells #[.string ⟨#[]⟩] t3)) w.heap.size ho y 0 ⟨#[]⟩ := by
  have T := (((Trk.start ht).alloc (.cells #[.int .i64 ho] t1)).alloc (.cells #[.int .i64 y] t1)).alloc (.cells #[.int .i64 0, .int .i64 0, .int .i64 0, .string ⟨#[]⟩, .string ⟨#[]⟩, .int .i64 0, .int .i64 0] t2) |>.alloc (.cells #[.string ⟨#[]⟩] t3)
  have z1 : (w.alloc (.cells #[.int .i64 ho] t1)).heap.size = w.heap.size + 1 := by simp
  have n1 : (w.alloc (.cells #[.int .i64 ho] t1)).cell? ⟨w.heap.size, 0, none⟩ = some (.int .i64 ho) := new0 rfl rfl
  generalize w.alloc (.cells #[.int .i64 ho] t1) = w1 at *
  have z2 : (w1.alloc (.cells #[.int .i64 y] t1)).heap.size = w.heap.size + 2 := by simp; omega
  have n2 : (w1.alloc (.cells #[.int .i64 y] t1)).cell? ⟨w1.heap.size, 0, none⟩ = some (.int .i64 y) := new0 rfl rfl
  have n1 := ((alloc_below w1 (.cells #[.int .i64 y] t1)).cell (p := ⟨w.heap.size, 0, none⟩) (by show w.heap.size < _; omega)).trans n1
  rw [z1] at n2
  generalize w1.alloc (.cells #[.int .i64 y] t1) = w2 at *
  have z3 : (w2.alloc (.cells #[.int .i64 0, .int .i64 0, .int .i64 0, .string ⟨#[]⟩, .string ⟨#[]⟩, .int .i64 0, .int .i64 0] t2)).heap.size = w.heap.size + 3 := by simp; omega
  have b3 := alloc_below w2 (.cells #[.int .i64 0, .int .i64 0, .int .i64 0, .string ⟨#[]⟩, .string ⟨#[]⟩, .int .i64 0, .int .i64 0] t2)
  have n1 := (b3.cell (p := ⟨w.heap.size, 0, none⟩) (by show w.heap.size < _; omega)).trans n1
  have n2 := (b3.cell (p := ⟨w.heap.size + 1, 0, none⟩) (by show w.heap.size + 1 < _; omega)).trans n2
  have t3' := there_new w2 #[.int .i64 0, .int .i64 0, .int .i64 0, .string ⟨#[]⟩, .string ⟨#[]⟩, .int .i64 0, .int .i64 0] t2 7 (by simp)
  have n3 : (w2.alloc (.cells #[.int .i64 0, .int .i64 0, .int .i64 0, .string ⟨#[]⟩, .string ⟨#[]⟩, .int .i64 0, .int .i64 0] t2)).cell? ⟨w2.heap.size, 2, none⟩ = some (.int .i64 0) := new0 rfl rfl
  rw [z2] at t3' n3
  generalize w2.alloc (.cells #[.int .i64 0, .int .i64 0, .int .i64 0, .string ⟨#[]⟩, .string ⟨#[]⟩, .int .i64 0, .int .i64 0] t2) = w3 at *
  have z4 : (w3.alloc (.cells #[.string ⟨#[]⟩] t3)).heap.size = w.heap.size + 4 := by simp; omega
  have b4 := alloc_below w3 (.cells #[.string ⟨#[]⟩] t3)
  have n1 := (b4.cell (p := ⟨w.heap.size, 0, none⟩) (by show w.heap.size < _; omega)).trans n1
  have n2 := (b4.cell (p := ⟨w.heap.size + 1, 0, none⟩) (by show w.heap.size + 1 < _; omega)).trans n2
  have n3 := (b4.cell (p := ⟨w.heap.size + 2, 2, none⟩) (by show w.heap.size + 2 < _; omega)).trans n3
  have t3'' := there_below t3' b4 (by omega)
  have t4 := there_new w3 #[.string ⟨#[]⟩] t3 1 (by simp)
  have n4 : (w3.alloc (.cells #[.string ⟨#[]⟩] t3)).cell? ⟨w3.heap.size, 0, none⟩ = some (.string ⟨#[]⟩) := new0 rfl rfl
  rw [z3] at t4 n4
  exact ⟨T, by omega, n1, n2, t3'', n3, t4, n4⟩

/-- The boxes of a round: the index, the entry, the four rules. -/
structure Rls (w : World) (i n : Nat) (k : Int) (e : Ent) : Prop where
  lt : i + 3 ≤ w.heap.size
  ci : w.cell? ⟨i, 0, none⟩ = some (.int .i64 k)
  ce : At7 w (i + 1) e.house e.seq e.day e.prev e.body e.r e.s
  r0 : w.cell? ⟨i + 1 + 1, 0, none⟩ = some (.int .i64 3)
  r1 : w.cell? ⟨i + 1 + 1, 1, none⟩ = some (.func (.func 68) #[] #[.pointer (some ⟨i, 0, none⟩), .pointer (some ⟨i + 1, 0, none⟩)])
  r2 : w.cell? ⟨i + 1 + 1, 2, none⟩ = some (.int .i64 1)
  r3 : w.cell? ⟨i + 1 + 1, 3, none⟩ = some (.func (.func 69) #[] #[.pointer (some ⟨i + 1, 0, none⟩), .pointer (some ⟨n, 0, none⟩), .pointer (some ⟨i, 0, none⟩)])
  r4 : w.cell? ⟨i + 1 + 1, 4, none⟩ = some (.int .i64 15)
  r5 : w.cell? ⟨i + 1 + 1, 5, none⟩ = some (.func (.func 70) #[] #[.pointer (some ⟨i + 1, 0, none⟩), .pointer (some ⟨n + 1 + 1, 0, none⟩)])
  r6 : w.cell? ⟨i + 1 + 1, 6, none⟩ = some (.int .i64 17)
  r7 : w.cell? ⟨i + 1 + 1, 7, none⟩ = some (.func (.func 71) #[] #[.pointer (some ⟨i + 1, 0, none⟩), .pointer (some ⟨n + 1 + 1 + 1, 0, none⟩), .pointer (some ⟨n + 1, 0, none⟩)])
theorem Rls.step {w w' : World} {i n : Nat} {k : Int} {e : Ent} (h : Rls w i n k e) (hb : Below w.heap.size w w') : Rls w' i n k e := by
  have hl := h.lt
  have hs := hb.size
  exact ⟨by omega, (hb.cell (p := ⟨i, 0, none⟩) (by show i < _; omega)).trans h.ci, keep7 (by omega) hb h.ce, (hb.cell (p := ⟨i + 1 + 1, 0, none⟩) (by show i + 1 + 1 < _; omega)).trans h.r0, (hb.cell (p := ⟨i + 1 + 1, 1, none⟩) (by show i + 1 + 1 < _; omega)).trans h.r1, (hb.cell (p := ⟨i + 1 + 1, 2, none⟩) (by show i + 1 + 1 < _; omega)).trans h.r2, (hb.cell (p := ⟨i + 1 + 1, 3, none⟩) (by show i + 1 + 1 < _; omega)).trans h.r3, (hb.cell (p := ⟨i + 1 + 1, 4, none⟩) (by show i + 1 + 1 < _; omega)).trans h.r4, (hb.cell (p := ⟨i + 1 + 1, 5, none⟩) (by show i + 1 + 1 < _; omega)).trans h.r5, (hb.cell (p := ⟨i + 1 + 1, 6, none⟩) (by show i + 1 + 1 < _; omega)).trans h.r6, (hb.cell (p := ⟨i + 1 + 1, 7, none⟩) (by show i + 1 + 1 < _; omega)).trans h.r7⟩
theorem Rls.start (w : World) (n : Nat) (k : Int) (e : Ent) (t1 t2 t3 : TypeId) :
    ∀ i, i = w.heap.size → Rls (((w.alloc (.cells #[.int .i64 k] t1)).alloc (.cells #[.int .i64 e.house, .int .i64 e.seq, .int .i64 e.day, .string e.prev, .string e.body, .int .i64 e.r, .int .i64 e.s] t2)).alloc (.cells #[.int .i64 3, .func (.func 68) #[] #[.pointer (some ⟨i, 0, none⟩), .pointer (some ⟨i + 1, 0, none⟩)], .int .i64 1, .func (.func 69) #[] #[.pointer (some ⟨i + 1, 0, none⟩), .pointer (some ⟨n, 0, none⟩), .pointer (some ⟨i, 0, none⟩)], .int .i64 15, .func (.func 70) #[] #[.pointer (some ⟨i + 1, 0, none⟩), .pointer (some ⟨n + 1 + 1, 0, none⟩)], .int .i64 17, .func (.func 71) #[] #[.pointer (some ⟨i + 1, 0, none⟩), .pointer (some ⟨n + 1 + 1 + 1, 0, none⟩), .pointer (some ⟨n + 1, 0, none⟩)]] t3)) i n k e := by
  rintro i rfl
  have z1 : (w.alloc (.cells #[.int .i64 k] t1)).heap.size = w.heap.size + 1 := by simp
  have n1 : (w.alloc (.cells #[.int .i64 k] t1)).cell? ⟨w.heap.size, 0, none⟩ = some (.int .i64 k) := new0 rfl rfl
  generalize hi : w.heap.size = i at *
  clear hi
  generalize w.alloc (.cells #[.int .i64 k] t1) = w1 at *
  have z2 : (w1.alloc (.cells #[.int .i64 e.house, .int .i64 e.seq, .int .i64 e.day, .string e.prev, .string e.body, .int .i64 e.r, .int .i64 e.s] t2)).heap.size = i + 2 := by simp; omega
  have n2 := new7 w1 e.house e.seq e.day e.prev e.body e.r e.s t2
  have b2 := alloc_below w1 (.cells #[.int .i64 e.house, .int .i64 e.seq, .int .i64 e.day, .string e.prev, .string e.body, .int .i64 e.r, .int .i64 e.s] t2)
  have n1 := (b2.cell (p := ⟨i, 0, none⟩) (by show i < _; omega)).trans n1
  rw [z1] at n2
  generalize w1.alloc (.cells #[.int .i64 e.house, .int .i64 e.seq, .int .i64 e.day, .string e.prev, .string e.body, .int .i64 e.r, .int .i64 e.s] t2) = w2 at *
  have z3 : (w2.alloc (.cells #[.int .i64 3, .func (.func 68) #[] #[.pointer (some ⟨i, 0, none⟩), .pointer (some ⟨i + 1, 0, none⟩)], .int .i64 1, .func (.func 69) #[] #[.pointer (some ⟨i + 1, 0, none⟩), .pointer (some ⟨n, 0, none⟩), .pointer (some ⟨i, 0, none⟩)], .int .i64 15, .func (.func 70) #[] #[.pointer (some ⟨i + 1, 0, none⟩), .pointer (some ⟨n + 1 + 1, 0, none⟩)], .int .i64 17, .func (.func 71) #[] #[.pointer (some ⟨i + 1, 0, none⟩), .pointer (some ⟨n + 1 + 1 + 1, 0, none⟩), .pointer (some ⟨n + 1, 0, none⟩)]] t3)).heap.size = i + 3 := by simp; omega
  have b3 := alloc_below w2 (.cells #[.int .i64 3, .func (.func 68) #[] #[.pointer (some ⟨i, 0, none⟩), .pointer (some ⟨i + 1, 0, none⟩)], .int .i64 1, .func (.func 69) #[] #[.pointer (some ⟨i + 1, 0, none⟩), .pointer (some ⟨n, 0, none⟩), .pointer (some ⟨i, 0, none⟩)], .int .i64 15, .func (.func 70) #[] #[.pointer (some ⟨i + 1, 0, none⟩), .pointer (some ⟨n + 1 + 1, 0, none⟩)], .int .i64 17, .func (.func 71) #[] #[.pointer (some ⟨i + 1, 0, none⟩), .pointer (some ⟨n + 1 + 1 + 1, 0, none⟩), .pointer (some ⟨n + 1, 0, none⟩)]] t3)
  have n1 := (b3.cell (p := ⟨i, 0, none⟩) (by show i < _; omega)).trans n1
  have n2 := keep7 (by omega) b3 n2
  have e3 : i + 1 + 1 = w2.heap.size := by omega
  exact ⟨by omega, n1, n2, new0 e3 rfl, new0 e3 rfl, new0 e3 rfl, new0 e3 rfl, new0 e3 rfl, new0 e3 rfl, new0 e3 rfl, new0 e3 rfl⟩
/-- The boxes without what the entry before and its digest are. -/
structure ChkB (w0 w : World) (n : Nat) (ho y : Int) : Prop where
  tabs : Tabs w0
  ln : w0.heap.size ≤ n
  bel : Below w0.heap.size w0 w
  lt : n + 4 ≤ w.heap.size
  cho : w.cell? ⟨n, 0, none⟩ = some (.int .i64 ho)
  cy : w.cell? ⟨n + 1, 0, none⟩ = some (.int .i64 y)
  bef : w.there (n + 2) 0 7
  prv : w.there (n + 3) 0 1
theorem ChkB.set {w0 w : World} {n : Nat} {ho y : Int} (h : ChkB w0 w n ho y) (a : Addr) (v : Value) (ha : n + 2 ≤ a.block) : ChkB w0 (w.setCell a v) n ho y :=
  ⟨h.tabs, h.ln, h.bel.setCell (by have := h.ln; omega) v, by have := h.lt; simpa [World.setCell] using this, (World.cell?_setCell_other _ _ _ _ (fun e => by have h2 := congrArg Addr.block e; simp at h2; omega)).trans h.cho, (World.cell?_setCell_other _ _ _ _ (fun e => by have h2 := congrArg Addr.block e; simp at h2; omega)).trans h.cy, there_setCell h.bef a v, there_setCell h.prv a v⟩
theorem Chk.base {w0 w : World} {n : Nat} {ho y pd : Int} {pv : ByteArray} (h : Chk w0 w n ho y pd pv) (ht : Tabs w0) (hn : w0.heap.size ≤ n) : ChkB w0 w n ho y := ⟨ht, hn, h.trk.bel, h.lt, h.cho, h.cy, h.bef, h.prv⟩
theorem ChkB.chk {w0 w : World} {n : Nat} {ho y pd : Int} {pv : ByteArray} (h : ChkB w0 w n ho y) (h1 : w.cell? ⟨n + 2, 2, none⟩ = some (.int .i64 pd)) (h2 : w.cell? ⟨n + 3, 0, none⟩ = some (.string pv)) : Chk w0 w n ho y pd pv :=
  ⟨⟨h.tabs.below h.bel (Nat.le_refl _), h.bel⟩, h.lt, h.cho, h.cy, h.bef, h1, h.prv, h2⟩
theorem Chk.drew {w0 w : World} {n : Nat} {ho y pd : Int} {pv : ByteArray} (h : Chk w0 w n ho y pd pv) : Chk w0 w.drew n ho y pd pv := h.step (drewN_below w 1)
theorem close1 {w W : World} {n : Nat} {ho y pd' : Int} {pv' : ByteArray} {v0 v1 v3 v4 v5 v6 : Value} (h : ChkB w W n ho y) : Chk w ((((((((W.setCell ⟨n + 1 + 1, 0, none⟩ v0).setCell ⟨n + 1 + 1, 1, none⟩ v1).setCell ⟨n + 1 + 1, 2, none⟩ (.int .i64 pd')).setCell ⟨n + 1 + 1, 3, none⟩ v3).setCell ⟨n + 1 + 1, 4, none⟩ v4).setCell ⟨n + 1 + 1, 5, none⟩ v5).setCell ⟨n + 1 + 1, 6, none⟩ v6).setCell ⟨n + 1 + 1 + 1, 0, none⟩ (.string pv')) n ho y pd' pv' := by
  have hb := h.bef 2 (by omega)
  have hp := h.prv 0 (by omega)
  refine ChkB.chk ((((((((h.set ⟨n + 1 + 1, 0, none⟩ v0 (Nat.le_refl _)).set ⟨n + 1 + 1, 1, none⟩ v1 (Nat.le_refl _)).set ⟨n + 1 + 1, 2, none⟩ (.int .i64 pd') (Nat.le_refl _)).set ⟨n + 1 + 1, 3, none⟩ v3 (Nat.le_refl _)).set ⟨n + 1 + 1, 4, none⟩ v4 (Nat.le_refl _)).set ⟨n + 1 + 1, 5, none⟩ v5 (Nat.le_refl _)).set ⟨n + 1 + 1, 6, none⟩ v6 (Nat.le_refl _)).set ⟨n + 1 + 1 + 1, 0, none⟩ (.string pv') (Nat.le_succ _)) ?_ ?_
  · rw [World.cell?_setCell_other _ _ _ _ (by simp), World.cell?_setCell_other _ _ _ _ (by simp), World.cell?_setCell_other _ _ _ _ (by simp), World.cell?_setCell_other _ _ _ _ (by simp), World.cell?_setCell_other _ _ _ _ (by simp)]
    exact World.cell?_setCell_same' _ _ _ (isSome_setCell (isSome_setCell hb.1))
  · exact World.cell?_setCell_same' _ _ _ (isSome_setCell (isSome_setCell (isSome_setCell (isSome_setCell (isSome_setCell (isSome_setCell (isSome_setCell hp.1)))))))
theorem close2 {w W : World} {n : Nat} {ho y pd' : Int} {pv' : ByteArray} {v0 v1 v3 v4 v5 v6 : Value} (h : ChkB w W n ho y) : Chk w ((((((((W.setCell ⟨n + 1 + 1 + 1, 0, none⟩ (.string pv')).setCell ⟨n + 1 + 1, 0, none⟩ v0).setCell ⟨n + 1 + 1, 1, none⟩ v1).setCell ⟨n + 1 + 1, 2, none⟩ (.int .i64 pd')).setCell ⟨n + 1 + 1, 3, none⟩ v3).setCell ⟨n + 1 + 1, 4, none⟩ v4).setCell ⟨n + 1 + 1, 5, none⟩ v5).setCell ⟨n + 1 + 1, 6, none⟩ v6) n ho y pd' pv' := by
  have hb := h.bef 2 (by omega)
  have hp := h.prv 0 (by omega)
  refine ChkB.chk ((((((((h.set ⟨n + 1 + 1 + 1, 0, none⟩ (.string pv') (Nat.le_succ _)).set ⟨n + 1 + 1, 0, none⟩ v0 (Nat.le_refl _)).set ⟨n + 1 + 1, 1, none⟩ v1 (Nat.le_refl _)).set ⟨n + 1 + 1, 2, none⟩ (.int .i64 pd') (Nat.le_refl _)).set ⟨n + 1 + 1, 3, none⟩ v3 (Nat.le_refl _)).set ⟨n + 1 + 1, 4, none⟩ v4 (Nat.le_refl _)).set ⟨n + 1 + 1, 5, none⟩ v5 (Nat.le_refl _)).set ⟨n + 1 + 1, 6, none⟩ v6 (Nat.le_refl _)) ?_ ?_
  · rw [World.cell?_setCell_other _ _ _ _ (by simp), World.cell?_setCell_other _ _ _ _ (by simp), World.cell?_setCell_other _ _ _ _ (by simp), World.cell?_setCell_other _ _ _ _ (by simp)]
    exact World.cell?_setCell_same' _ _ _ (isSome_setCell (isSome_setCell (isSome_setCell hb.1)))
  · rw [World.cell?_setCell_other _ _ _ _ (by simp), World.cell?_setCell_other _ _ _ _ (by simp), World.cell?_setCell_other _ _ _ _ (by simp), World.cell?_setCell_other _ _ _ _ (by simp), World.cell?_setCell_other _ _ _ _ (by simp), World.cell?_setCell_other _ _ _ _ (by simp), World.cell?_setCell_other _ _ _ _ (by simp)]
    exact World.cell?_setCell_same' _ _ _ hp.1
theorem bcell {W w1 : World} (hb : Below W.heap.size W w1) : (∀ b o, b < W.heap.size → w1.cell? ⟨b, o, none⟩ = W.cell? ⟨b, o, none⟩) ∧ (∀ b o, b < W.heap.size → w1.frozen? ⟨b, o, none⟩ = W.frozen? ⟨b, o, none⟩) :=
  ⟨fun b o h => hb.cell (p := ⟨b, o, none⟩) h, fun b o h => hb.frozen (p := ⟨b, o, none⟩) h⟩
theorem and4_false {a b c d : Prop} [Decidable a] [Decidable b] [Decidable c] [Decidable d] (h : ¬ (a ∧ b ∧ c ∧ d)) : (decide a && decide b && decide c && decide d) = false := by
  rw [← Bool.not_eq_true]
  intro x
  simp only [Bool.and_eq_true, decide_eq_true_eq] at x
  exact h ⟨x.1.1.1, x.1.1.2, x.1.2, x.2⟩
theorem and2_false {a : Prop} [Decidable a] {b : Bool} (h : ¬ (a ∧ b = true)) : (decide a && b) = false := by
  rw [← Bool.not_eq_true]
  intro x
  simp only [Bool.and_eq_true, decide_eq_true_eq] at x
  exact h x
set_option maxHeartbeats 8000000 in
set_option maxRecDepth 100000 in
theorem Check_in (ho y : Int) (l : List Ent) (ao : Option Addr) (lb lo c : Nat) (w : World) (h1 : 0 ≤ ho) (h2 : ho < 12) (h3 : 1 ≤ y) (h4 : y < 2147483647) (hl : l.length ≤ 100) (hok : ∀ e ∈ l, e.Ok) (hat : EntsAt w ao lb lo l) (ht : Tabs w) :
    Calls Tryd.prog 38 #[.slice ao l.length c, .int .i64 ho, .int .i64 y] w fun e w' => e = .returned (.tuple #[.int .i64 (chkFrom ho y 0 0 ⟨#[]⟩ l).1, .int .i64 (chkFrom ho y 0 0 ⟨#[]⟩ l).2]) ∧ Below w.heap.size w w' := by
  have HOK := Lib.hid hok
  have HAT := Lib.hid hat
  have HT0 := Lib.hid ht
  have HC0 := Lib.hid (Chk.start ho y ht 3 63 9)
  have d1 : decide (ho < 0) = false := by simp; omega
  have d2 : decide (12 ≤ ho) = false := by simp; omega
  have d3 : decide (y < 1) = false := by simp; omega
  have d4 : decide (2147483647 ≤ y) = false := by simp; omega
  clear hok hat ht h1 h2 h3 h4
  go_enter Tryd.func38, Tryd.ntmps38
  go_wp2_with fail
  go_step3
  go_wp2_with fail
  go_step3
  go_wp2_with fail
  generalize (((w.alloc (.cells #[.int .i64 ho] 3)).alloc (.cells #[.int .i64 y] 3)).alloc (.cells #[.int .i64 0, .int .i64 0, .int .i64 0, .string ⟨#[]⟩, .string ⟨#[]⟩, .int .i64 0, .int .i64 0] 63)).alloc (.cells #[.string ⟨#[]⟩] 9) = w0 at *
  have HR0 : Hid (chkFrom ho y 0 0 ⟨#[]⟩ (l.drop 0) = chkFrom ho y 0 0 ⟨#[]⟩ l) := Lib.hid rfl
  generalize hres : chkFrom ho y 0 0 ⟨#[]⟩ l = res at *
  have HRS := Lib.hid hres
  clear hres d1 d2 d3 d4
  go_loopg [10, 11, 33] l.length (fun gk s10 s11 s33 wr => ∃ (k : Nat) (pd : Int) (pv : ByteArray), k + gk = l.length ∧ s10 = .int .i64 0 ∧ s11 = .int .i64 (-1) ∧ s33 = .int .i64 (k : Nat) ∧ chkFrom ho y k pd pv (l.drop k) = res ∧ Chk w wr w.heap.size ho y pd pv)
  case atStart => exact ⟨0, 0, ⟨#[]⟩, by omega, rfl, rfl, rfl, HR0.out, HC0.out⟩
  case round =>
    clear HR0 HC0
    obtain ⟨k, pd, pv, hk, rfl, rfl, rfl, hr, hchk⟩ := hrel
    have HR := Lib.hid hr
    have HC := Lib.hid hchk
    clear hr hchk
    by_cases hlt : k < l.length
    · obtain ⟨e, he⟩ : ∃ e, l[k]? = some e := ⟨_, List.getElem?_eq_getElem hlt⟩
      have hlc := (HAT.out.ao (by omega)).1
      subst hlc
      have HATR := Lib.hid (HAT.out.step HC.out.trk.bel)
      obtain ⟨c0, c1, c2, c3, c4, c5, c6⟩ := HATR.out.at_ k e he
      have heok := HOK.out e (List.mem_of_getElem? he)
      have hdrop : l.drop k = e :: l.drop (k + 1) := by
        have hx := List.drop_eq_getElem_cons hlt
        rw [hx]; congr 1; exact (List.getElem?_eq_some_iff.1 he).2
      have HRL := Lib.hid (Rls.start wr w.heap.size (k : Nat) e 3 63 96 _ rfl)
      have HC3 := Lib.hid (HC.out.step ((((Below.refl wr.heap.size wr).alloc (Nat.le_refl _) (.cells #[.int .i64 (k : Nat)] 3)).alloc (by simp) (.cells #[.int .i64 e.house, .int .i64 e.seq, .int .i64 e.day, .string e.prev, .string e.body, .int .i64 e.r, .int .i64 e.s] 63)).alloc (by simp; omega) (.cells #[.int .i64 3, .func (.func 68) #[] #[.pointer (some ⟨wr.heap.size, 0, none⟩), .pointer (some ⟨wr.heap.size + 1, 0, none⟩)], .int .i64 1, .func (.func 69) #[] #[.pointer (some ⟨wr.heap.size + 1, 0, none⟩), .pointer (some ⟨w.heap.size, 0, none⟩), .pointer (some ⟨wr.heap.size, 0, none⟩)], .int .i64 15, .func (.func 70) #[] #[.pointer (some ⟨wr.heap.size + 1, 0, none⟩), .pointer (some ⟨w.heap.size + 1 + 1, 0, none⟩)], .int .i64 17, .func (.func 71) #[] #[.pointer (some ⟨wr.heap.size + 1, 0, none⟩), .pointer (some ⟨w.heap.size + 1 + 1 + 1, 0, none⟩), .pointer (some ⟨w.heap.size + 1, 0, none⟩)]] 96)))
      have HR2 : Hid (chkFrom ho y k pd pv (e :: l.drop (k + 1)) = res) := Lib.hid (by rw [← hdrop]; exact HR.out)
      clear hdrop he HR
      go_wp2_with fail
      generalize ((wr.alloc (.cells #[.int .i64 (k : Nat)] 3)).alloc (.cells #[.int .i64 e.house, .int .i64 e.seq, .int .i64 e.day, .string e.prev, .string e.body, .int .i64 e.r, .int .i64 e.s] 63)).alloc (.cells #[.int .i64 3, .func (.func 68) #[] #[.pointer (some ⟨wr.heap.size, 0, none⟩), .pointer (some ⟨wr.heap.size + 1, 0, none⟩)], .int .i64 1, .func (.func 69) #[] #[.pointer (some ⟨wr.heap.size + 1, 0, none⟩), .pointer (some ⟨w.heap.size, 0, none⟩), .pointer (some ⟨wr.heap.size, 0, none⟩)], .int .i64 15, .func (.func 70) #[] #[.pointer (some ⟨wr.heap.size + 1, 0, none⟩), .pointer (some ⟨w.heap.size + 1 + 1, 0, none⟩)], .int .i64 17, .func (.func 71) #[] #[.pointer (some ⟨wr.heap.size + 1, 0, none⟩), .pointer (some ⟨w.heap.size + 1 + 1 + 1, 0, none⟩), .pointer (some ⟨w.heap.size + 1, 0, none⟩)]] 96) = w3 at *
      generalize hi : wr.heap.size = i at *
      clear hi c0 c1 c2 c3 c4 c5 c6 HC
      have hb4 := heok.body
      have OK := Lib.hid heok
      have HC := HC3
      clear HC3
      clear heok
      by_cases q0 : ¬ e.body.size ≤ 2000
      · have hw : wrongE ho y k pd pv e = 3 := by unfold wrongE; rw [if_pos q0]
        have HRES : Hid (res = (3, (k : Int))) := Lib.hid (by rw [← HR2.out, chkFrom, if_neg (by rw [hw]; decide), hw])
        have Q0 : Hid (decide (e.body.size ≤ 2000) = false) := Lib.hid (decide_eq_false q0)
        clear hw q0
        refine wp_loop_rounds 5 ?_
        rw [rounds_succ]
        obtain ⟨ra, rb⟩ := And.intro HRL.out.r0 HRL.out.r1
        go_wp2_with fail
        replace HC := Lib.hid (HC.out.step (alloc_below w3 (.cells #[.int .i64 3, .func (.func 68) #[] #[.pointer (some ⟨i, 0, none⟩), .pointer (some ⟨i + 1, 0, none⟩)]] 96)))
        replace HRL := Lib.hid (HRL.out.step (alloc_below w3 (.cells #[.int .i64 3, .func (.func 68) #[] #[.pointer (some ⟨i, 0, none⟩), .pointer (some ⟨i + 1, 0, none⟩)]] 96)))
        have hrx : (w3.alloc (.cells #[.int .i64 3, .func (.func 68) #[] #[.pointer (some ⟨i, 0, none⟩), .pointer (some ⟨i + 1, 0, none⟩)]] 96)).cell? ⟨w3.heap.size, 0, none⟩ = some (.int .i64 3) := new0 rfl rfl
        have hlx : w3.heap.size < (w3.alloc (.cells #[.int .i64 3, .func (.func 68) #[] #[.pointer (some ⟨i, 0, none⟩), .pointer (some ⟨i + 1, 0, none⟩)]] 96)).heap.size := by simp
        clear ra rb
        generalize w3.alloc (.cells #[.int .i64 3, .func (.func 68) #[] #[.pointer (some ⟨i, 0, none⟩), .pointer (some ⟨i + 1, 0, none⟩)]] 96) = w4 at *
        generalize w3.heap.size = b4 at *
        refine (rule1 i (i + 1) (k : Nat) e.house e.seq e.day e.prev e.body e.r e.s false w4 (by omega) hb4 HRL.out.ci HRL.out.ce Q0.out).mono ?_
        rintro e' wx ⟨rfl, rfl⟩
        have ci := HRL.out.ci
        go_wp2_with fail
        go_quiet (fail)
        go_wp2_with fail
        try rw [Exit.noGoto_ret]
        go_ret2
        exact ⟨by rw [HRS.out, HRES.out]; rfl, HC.out.trk.bel.trans ((drewN_below w4 nq).mono HC.out.trk.bel.size)⟩
      by_cases q1 : ¬ (e.house = ho ∧ e.seq = (k : Nat) ∧ 0 ≤ e.day ∧ e.day ≤ 2000)
      · have hw : wrongE ho y k pd pv e = 1 := by unfold wrongE; rw [if_neg q0, if_pos q1]
        have HRES : Hid (res = (1, (k : Int))) := Lib.hid (by rw [← HR2.out, chkFrom, if_neg (by rw [hw]; decide), hw])
        have Q0 : Hid (decide (e.body.size ≤ 2000) = true) := Lib.hid (decide_eq_true (Classical.not_not.1 q0))
        have Q1 : Hid ((decide (e.house = ho) && decide (e.seq = (k : Nat)) && decide (0 ≤ e.day) && decide (e.day ≤ 2000)) = false) := Lib.hid (and4_false q1)
        clear hw q0 q1
        refine wp_loop_rounds 5 ?_
        rw [rounds_succ]
        obtain ⟨ra, rb⟩ := And.intro HRL.out.r0 HRL.out.r1
        go_wp2_with fail
        replace HC := Lib.hid (HC.out.step (alloc_below w3 (.cells #[.int .i64 3, .func (.func 68) #[] #[.pointer (some ⟨i, 0, none⟩), .pointer (some ⟨i + 1, 0, none⟩)]] 96)))
        replace HRL := Lib.hid (HRL.out.step (alloc_below w3 (.cells #[.int .i64 3, .func (.func 68) #[] #[.pointer (some ⟨i, 0, none⟩), .pointer (some ⟨i + 1, 0, none⟩)]] 96)))
        clear ra rb
        generalize w3.alloc (.cells #[.int .i64 3, .func (.func 68) #[] #[.pointer (some ⟨i, 0, none⟩), .pointer (some ⟨i + 1, 0, none⟩)]] 96) = w4 at *
        generalize w3.heap.size = b4 at *
        refine (rule1 i (i + 1) (k : Nat) e.house e.seq e.day e.prev e.body e.r e.s true w4 (by omega) hb4 HRL.out.ci HRL.out.ce Q0.out).mono ?_
        rintro e' wx ⟨rfl, rfl⟩
        go_wp2_with fail
        rw [rounds_succ]
        obtain ⟨ra, rb⟩ := And.intro HRL.out.r2 HRL.out.r3
        go_wp2_with fail
        replace HC := Lib.hid (HC.out.step (alloc_below w4 (.cells #[.int .i64 1, .func (.func 69) #[] #[.pointer (some ⟨i + 1, 0, none⟩), .pointer (some ⟨w.heap.size, 0, none⟩), .pointer (some ⟨i, 0, none⟩)]] 96)))
        replace HRL := Lib.hid (HRL.out.step (alloc_below w4 (.cells #[.int .i64 1, .func (.func 69) #[] #[.pointer (some ⟨i + 1, 0, none⟩), .pointer (some ⟨w.heap.size, 0, none⟩), .pointer (some ⟨i, 0, none⟩)]] 96)))
        have hrx : (w4.alloc (.cells #[.int .i64 1, .func (.func 69) #[] #[.pointer (some ⟨i + 1, 0, none⟩), .pointer (some ⟨w.heap.size, 0, none⟩), .pointer (some ⟨i, 0, none⟩)]] 96)).cell? ⟨w4.heap.size, 0, none⟩ = some (.int .i64 1) := new0 rfl rfl
        have hlx : w4.heap.size < (w4.alloc (.cells #[.int .i64 1, .func (.func 69) #[] #[.pointer (some ⟨i + 1, 0, none⟩), .pointer (some ⟨w.heap.size, 0, none⟩), .pointer (some ⟨i, 0, none⟩)]] 96)).heap.size := by simp
        clear ra rb
        generalize w4.alloc (.cells #[.int .i64 1, .func (.func 69) #[] #[.pointer (some ⟨i + 1, 0, none⟩), .pointer (some ⟨w.heap.size, 0, none⟩), .pointer (some ⟨i, 0, none⟩)]] 96) = w5 at *
        generalize w4.heap.size = b5 at *
        refine (rule2 i (i + 1) w.heap.size (k : Nat) ho e.house e.seq e.day e.prev e.body e.r e.s false w5 HRL.out.ci HC.out.cho HRL.out.ce Q1.out).mono ?_
        rintro e' wx ⟨rfl, rfl⟩
        have ci := HRL.out.ci
        go_wp2_with fail
        go_quiet (fail)
        go_wp2_with fail
        try rw [Exit.noGoto_ret]
        go_ret2
        exact ⟨by rw [HRS.out, HRES.out]; rfl, HC.out.trk.bel.trans ((drewN_below w5 nq).mono HC.out.trk.bel.size)⟩
      by_cases q2 : ¬ pd ≤ e.day
      · have hw : wrongE ho y k pd pv e = 15 := by unfold wrongE; rw [if_neg q0, if_neg q1, if_pos q2]
        have HRES : Hid (res = (15, (k : Int))) := Lib.hid (by rw [← HR2.out, chkFrom, if_neg (by rw [hw]; decide), hw])
        have Q0 : Hid (decide (e.body.size ≤ 2000) = true) := Lib.hid (decide_eq_true (Classical.not_not.1 q0))
        have Q1 : Hid ((decide (e.house = ho) && decide (e.seq = (k : Nat)) && decide (0 ≤ e.day) && decide (e.day ≤ 2000)) = true) := Lib.hid (by obtain ⟨x1, x2, x3, x4⟩ := Classical.not_not.1 q1; simp [x1, x2, x3, x4])
        have Q2 : Hid (decide (pd ≤ e.day) = false) := Lib.hid (decide_eq_false q2)
        clear hw q0 q1 q2
        refine wp_loop_rounds 5 ?_
        rw [rounds_succ]
        obtain ⟨ra, rb⟩ := And.intro HRL.out.r0 HRL.out.r1
        go_wp2_with fail
        replace HC := Lib.hid (HC.out.step (alloc_below w3 (.cells #[.int .i64 3, .func (.func 68) #[] #[.pointer (some ⟨i, 0, none⟩), .pointer (some ⟨i + 1, 0, none⟩)]] 96)))
        replace HRL := Lib.hid (HRL.out.step (alloc_below w3 (.cells #[.int .i64 3, .func (.func 68) #[] #[.pointer (some ⟨i, 0, none⟩), .pointer (some ⟨i + 1, 0, none⟩)]] 96)))
        clear ra rb
        generalize w3.alloc (.cells #[.int .i64 3, .func (.func 68) #[] #[.pointer (some ⟨i, 0, none⟩), .pointer (some ⟨i + 1, 0, none⟩)]] 96) = w4 at *
        generalize w3.heap.size = b4 at *
        refine (rule1 i (i + 1) (k : Nat) e.house e.seq e.day e.prev e.body e.r e.s true w4 (by omega) hb4 HRL.out.ci HRL.out.ce Q0.out).mono ?_
        rintro e' wx ⟨rfl, rfl⟩
        go_wp2_with fail
        rw [rounds_succ]
        obtain ⟨ra, rb⟩ := And.intro HRL.out.r2 HRL.out.r3
        go_wp2_with fail
        replace HC := Lib.hid (HC.out.step (alloc_below w4 (.cells #[.int .i64 1, .func (.func 69) #[] #[.pointer (some ⟨i + 1, 0, none⟩), .pointer (some ⟨w.heap.size, 0, none⟩), .pointer (some ⟨i, 0, none⟩)]] 96)))
        replace HRL := Lib.hid (HRL.out.step (alloc_below w4 (.cells #[.int .i64 1, .func (.func 69) #[] #[.pointer (some ⟨i + 1, 0, none⟩), .pointer (some ⟨w.heap.size, 0, none⟩), .pointer (some ⟨i, 0, none⟩)]] 96)))
        clear ra rb
        generalize w4.alloc (.cells #[.int .i64 1, .func (.func 69) #[] #[.pointer (some ⟨i + 1, 0, none⟩), .pointer (some ⟨w.heap.size, 0, none⟩), .pointer (some ⟨i, 0, none⟩)]] 96) = w5 at *
        generalize w4.heap.size = b5 at *
        refine (rule2 i (i + 1) w.heap.size (k : Nat) ho e.house e.seq e.day e.prev e.body e.r e.s true w5 HRL.out.ci HC.out.cho HRL.out.ce Q1.out).mono ?_
        rintro e' wx ⟨rfl, rfl⟩
        go_wp2_with fail
        rw [rounds_succ]
        obtain ⟨ra, rb⟩ := And.intro HRL.out.r4 HRL.out.r5
        go_wp2_with fail
        replace HC := Lib.hid (HC.out.step (alloc_below w5 (.cells #[.int .i64 15, .func (.func 70) #[] #[.pointer (some ⟨i + 1, 0, none⟩), .pointer (some ⟨w.heap.size + 1 + 1, 0, none⟩)]] 96)))
        replace HRL := Lib.hid (HRL.out.step (alloc_below w5 (.cells #[.int .i64 15, .func (.func 70) #[] #[.pointer (some ⟨i + 1, 0, none⟩), .pointer (some ⟨w.heap.size + 1 + 1, 0, none⟩)]] 96)))
        have hrx : (w5.alloc (.cells #[.int .i64 15, .func (.func 70) #[] #[.pointer (some ⟨i + 1, 0, none⟩), .pointer (some ⟨w.heap.size + 1 + 1, 0, none⟩)]] 96)).cell? ⟨w5.heap.size, 0, none⟩ = some (.int .i64 15) := new0 rfl rfl
        have hlx : w5.heap.size < (w5.alloc (.cells #[.int .i64 15, .func (.func 70) #[] #[.pointer (some ⟨i + 1, 0, none⟩), .pointer (some ⟨w.heap.size + 1 + 1, 0, none⟩)]] 96)).heap.size := by simp
        clear ra rb
        generalize w5.alloc (.cells #[.int .i64 15, .func (.func 70) #[] #[.pointer (some ⟨i + 1, 0, none⟩), .pointer (some ⟨w.heap.size + 1 + 1, 0, none⟩)]] 96) = w6 at *
        generalize w5.heap.size = b6 at *
        refine (rule3 (i + 1) (w.heap.size + 1 + 1) pd e.house e.seq e.day e.prev e.body e.r e.s false w6 HC.out.cpd HRL.out.ce Q2.out).mono ?_
        rintro e' wx ⟨rfl, rfl⟩
        have ci := HRL.out.ci
        go_wp2_with fail
        go_quiet (fail)
        go_wp2_with fail
        try rw [Exit.noGoto_ret]
        go_ret2
        exact ⟨by rw [HRS.out, HRES.out]; rfl, HC.out.trk.bel.trans ((drewN_below w6 nq).mono HC.out.trk.bel.size)⟩
      by_cases q3 : ¬ (e.prev = pv ∧ e.sgd y = true)
      · have hw : wrongE ho y k pd pv e = 17 := by unfold wrongE; rw [if_neg q0, if_neg q1, if_neg q2, if_pos q3]
        have HRES : Hid (res = (17, (k : Int))) := Lib.hid (by rw [← HR2.out, chkFrom, if_neg (by rw [hw]; decide), hw])
        have Q0 : Hid (decide (e.body.size ≤ 2000) = true) := Lib.hid (decide_eq_true (Classical.not_not.1 q0))
        have Q1 : Hid ((decide (e.house = ho) && decide (e.seq = (k : Nat)) && decide (0 ≤ e.day) && decide (e.day ≤ 2000)) = true) := Lib.hid (by obtain ⟨x1, x2, x3, x4⟩ := Classical.not_not.1 q1; simp [x1, x2, x3, x4])
        have Q2 : Hid (decide (pd ≤ e.day) = true) := Lib.hid (decide_eq_true (Classical.not_not.1 q2))
        have Q3 : Hid ((decide (e.prev = pv) && sgdE y e.house e.seq e.day e.prev e.body e.r e.s) = false) := Lib.hid (and2_false q3)
        clear hw q0 q1 q2 q3
        refine wp_loop_rounds 5 ?_
        rw [rounds_succ]
        obtain ⟨ra, rb⟩ := And.intro HRL.out.r0 HRL.out.r1
        go_wp2_with fail
        replace HC := Lib.hid (HC.out.step (alloc_below w3 (.cells #[.int .i64 3, .func (.func 68) #[] #[.pointer (some ⟨i, 0, none⟩), .pointer (some ⟨i + 1, 0, none⟩)]] 96)))
        replace HRL := Lib.hid (HRL.out.step (alloc_below w3 (.cells #[.int .i64 3, .func (.func 68) #[] #[.pointer (some ⟨i, 0, none⟩), .pointer (some ⟨i + 1, 0, none⟩)]] 96)))
        clear ra rb
        generalize w3.alloc (.cells #[.int .i64 3, .func (.func 68) #[] #[.pointer (some ⟨i, 0, none⟩), .pointer (some ⟨i + 1, 0, none⟩)]] 96) = w4 at *
        generalize w3.heap.size = b4 at *
        refine (rule1 i (i + 1) (k : Nat) e.house e.seq e.day e.prev e.body e.r e.s true w4 (by omega) hb4 HRL.out.ci HRL.out.ce Q0.out).mono ?_
        rintro e' wx ⟨rfl, rfl⟩
        go_wp2_with fail
        rw [rounds_succ]
        obtain ⟨ra, rb⟩ := And.intro HRL.out.r2 HRL.out.r3
        go_wp2_with fail
        replace HC := Lib.hid (HC.out.step (alloc_below w4 (.cells #[.int .i64 1, .func (.func 69) #[] #[.pointer (some ⟨i + 1, 0, none⟩), .pointer (some ⟨w.heap.size, 0, none⟩), .pointer (some ⟨i, 0, none⟩)]] 96)))
        replace HRL := Lib.hid (HRL.out.step (alloc_below w4 (.cells #[.int .i64 1, .func (.func 69) #[] #[.pointer (some ⟨i + 1, 0, none⟩), .pointer (some ⟨w.heap.size, 0, none⟩), .pointer (some ⟨i, 0, none⟩)]] 96)))
        clear ra rb
        generalize w4.alloc (.cells #[.int .i64 1, .func (.func 69) #[] #[.pointer (some ⟨i + 1, 0, none⟩), .pointer (some ⟨w.heap.size, 0, none⟩), .pointer (some ⟨i, 0, none⟩)]] 96) = w5 at *
        generalize w4.heap.size = b5 at *
        refine (rule2 i (i + 1) w.heap.size (k : Nat) ho e.house e.seq e.day e.prev e.body e.r e.s true w5 HRL.out.ci HC.out.cho HRL.out.ce Q1.out).mono ?_
        rintro e' wx ⟨rfl, rfl⟩
        go_wp2_with fail
        rw [rounds_succ]
        obtain ⟨ra, rb⟩ := And.intro HRL.out.r4 HRL.out.r5
        go_wp2_with fail
        replace HC := Lib.hid (HC.out.step (alloc_below w5 (.cells #[.int .i64 15, .func (.func 70) #[] #[.pointer (some ⟨i + 1, 0, none⟩), .pointer (some ⟨w.heap.size + 1 + 1, 0, none⟩)]] 96)))
        replace HRL := Lib.hid (HRL.out.step (alloc_below w5 (.cells #[.int .i64 15, .func (.func 70) #[] #[.pointer (some ⟨i + 1, 0, none⟩), .pointer (some ⟨w.heap.size + 1 + 1, 0, none⟩)]] 96)))
        clear ra rb
        generalize w5.alloc (.cells #[.int .i64 15, .func (.func 70) #[] #[.pointer (some ⟨i + 1, 0, none⟩), .pointer (some ⟨w.heap.size + 1 + 1, 0, none⟩)]] 96) = w6 at *
        generalize w5.heap.size = b6 at *
        refine (rule3 (i + 1) (w.heap.size + 1 + 1) pd e.house e.seq e.day e.prev e.body e.r e.s true w6 HC.out.cpd HRL.out.ce Q2.out).mono ?_
        rintro e' wx ⟨rfl, rfl⟩
        go_wp2_with fail
        rw [rounds_succ]
        obtain ⟨ra, rb⟩ := And.intro HRL.out.r6 HRL.out.r7
        go_wp2_with fail
        replace HC := Lib.hid (HC.out.step (alloc_below w6 (.cells #[.int .i64 17, .func (.func 71) #[] #[.pointer (some ⟨i + 1, 0, none⟩), .pointer (some ⟨w.heap.size + 1 + 1 + 1, 0, none⟩), .pointer (some ⟨w.heap.size + 1, 0, none⟩)]] 96)))
        replace HRL := Lib.hid (HRL.out.step (alloc_below w6 (.cells #[.int .i64 17, .func (.func 71) #[] #[.pointer (some ⟨i + 1, 0, none⟩), .pointer (some ⟨w.heap.size + 1 + 1 + 1, 0, none⟩), .pointer (some ⟨w.heap.size + 1, 0, none⟩)]] 96)))
        have hrx : (w6.alloc (.cells #[.int .i64 17, .func (.func 71) #[] #[.pointer (some ⟨i + 1, 0, none⟩), .pointer (some ⟨w.heap.size + 1 + 1 + 1, 0, none⟩), .pointer (some ⟨w.heap.size + 1, 0, none⟩)]] 96)).cell? ⟨w6.heap.size, 0, none⟩ = some (.int .i64 17) := new0 rfl rfl
        have hlx : w6.heap.size < (w6.alloc (.cells #[.int .i64 17, .func (.func 71) #[] #[.pointer (some ⟨i + 1, 0, none⟩), .pointer (some ⟨w.heap.size + 1 + 1 + 1, 0, none⟩), .pointer (some ⟨w.heap.size + 1, 0, none⟩)]] 96)).heap.size := by simp
        clear ra rb
        generalize w6.alloc (.cells #[.int .i64 17, .func (.func 71) #[] #[.pointer (some ⟨i + 1, 0, none⟩), .pointer (some ⟨w.heap.size + 1 + 1 + 1, 0, none⟩), .pointer (some ⟨w.heap.size + 1, 0, none⟩)]] 96) = w7 at *
        generalize w6.heap.size = b7 at *
        refine (rule4 (i + 1) (w.heap.size + 1 + 1 + 1) (w.heap.size + 1) pv y e.house e.seq e.day e.prev e.body e.r e.s false w7 OK.out.house OK.out.seq OK.out.day OK.out.prev OK.out.body HC.out.cpv HC.out.cy HRL.out.ce HC.out.trk.tabs Q3.out).mono ?_
        rintro e' w8 ⟨rfl, hb⟩
        replace HC := Lib.hid (HC.out.step hb)
        replace HRL := Lib.hid (HRL.out.step hb)
        have hry := (hb.cell (p := ⟨b7, 0, none⟩) hlx).trans hrx
        clear hrx
        clear hb
        have ci := HRL.out.ci
        go_wp2_with fail
        go_quiet (fail)
        go_wp2_with fail
        try rw [Exit.noGoto_ret]
        go_ret2
        exact ⟨by rw [HRS.out, HRES.out]; rfl, HC.out.trk.bel.trans ((drewN_below w8 nq).mono HC.out.trk.bel.size)⟩
      have hw : wrongE ho y k pd pv e = 0 := by unfold wrongE; rw [if_neg q0, if_neg q1, if_neg q2, if_neg q3]
      have HRN : Hid (chkFrom ho y (k + 1) e.day e.dig (l.drop (k + 1)) = res) := Lib.hid (by rw [← HR2.out, chkFrom, if_pos hw])
      have Q0 : Hid (decide (e.body.size ≤ 2000) = true) := Lib.hid (decide_eq_true (Classical.not_not.1 q0))
      have Q1 : Hid ((decide (e.house = ho) && decide (e.seq = (k : Nat)) && decide (0 ≤ e.day) && decide (e.day ≤ 2000)) = true) := Lib.hid (by obtain ⟨x1, x2, x3, x4⟩ := Classical.not_not.1 q1; simp [x1, x2, x3, x4])
      have Q2 : Hid (decide (pd ≤ e.day) = true) := Lib.hid (decide_eq_true (Classical.not_not.1 q2))
      have Q3 : Hid ((decide (e.prev = pv) && sgdE y e.house e.seq e.day e.prev e.body e.r e.s) = true) := Lib.hid (by obtain ⟨x1, x2⟩ := Classical.not_not.1 q3; simp [x1]; exact x1 ▸ x2)
      clear hw q0 q1 q2 q3 HR2
      refine wp_loop_rounds 5 ?_
      rw [rounds_succ]
      obtain ⟨ra, rb⟩ := And.intro HRL.out.r0 HRL.out.r1
      go_wp2_with fail
      replace HC := Lib.hid (HC.out.step (alloc_below w3 (.cells #[.int .i64 3, .func (.func 68) #[] #[.pointer (some ⟨i, 0, none⟩), .pointer (some ⟨i + 1, 0, none⟩)]] 96)))
      replace HRL := Lib.hid (HRL.out.step (alloc_below w3 (.cells #[.int .i64 3, .func (.func 68) #[] #[.pointer (some ⟨i, 0, none⟩), .pointer (some ⟨i + 1, 0, none⟩)]] 96)))
      clear ra rb
      generalize w3.alloc (.cells #[.int .i64 3, .func (.func 68) #[] #[.pointer (some ⟨i, 0, none⟩), .pointer (some ⟨i + 1, 0, none⟩)]] 96) = w4 at *
      generalize w3.heap.size = b4 at *
      refine (rule1 i (i + 1) (k : Nat) e.house e.seq e.day e.prev e.body e.r e.s true w4 (by omega) hb4 HRL.out.ci HRL.out.ce Q0.out).mono ?_
      rintro e' wx ⟨rfl, rfl⟩
      go_wp2_with fail
      rw [rounds_succ]
      obtain ⟨ra, rb⟩ := And.intro HRL.out.r2 HRL.out.r3
      go_wp2_with fail
      replace HC := Lib.hid (HC.out.step (alloc_below w4 (.cells #[.int .i64 1, .func (.func 69) #[] #[.pointer (some ⟨i + 1, 0, none⟩), .pointer (some ⟨w.heap.size, 0, none⟩), .pointer (some ⟨i, 0, none⟩)]] 96)))
      replace HRL := Lib.hid (HRL.out.step (alloc_below w4 (.cells #[.int .i64 1, .func (.func 69) #[] #[.pointer (some ⟨i + 1, 0, none⟩), .pointer (some ⟨w.heap.size, 0, none⟩), .pointer (some ⟨i, 0, none⟩)]] 96)))
      clear ra rb
      generalize w4.alloc (.cells #[.int .i64 1, .func (.func 69) #[] #[.pointer (some ⟨i + 1, 0, none⟩), .pointer (some ⟨w.heap.size, 0, none⟩), .pointer (some ⟨i, 0, none⟩)]] 96) = w5 at *
      generalize w4.heap.size = b5 at *
      refine (rule2 i (i + 1) w.heap.size (k : Nat) ho e.house e.seq e.day e.prev e.body e.r e.s true w5 HRL.out.ci HC.out.cho HRL.out.ce Q1.out).mono ?_
      rintro e' wx ⟨rfl, rfl⟩
      go_wp2_with fail
      rw [rounds_succ]
      obtain ⟨ra, rb⟩ := And.intro HRL.out.r4 HRL.out.r5
      go_wp2_with fail
      replace HC := Lib.hid (HC.out.step (alloc_below w5 (.cells #[.int .i64 15, .func (.func 70) #[] #[.pointer (some ⟨i + 1, 0, none⟩), .pointer (some ⟨w.heap.size + 1 + 1, 0, none⟩)]] 96)))
      replace HRL := Lib.hid (HRL.out.step (alloc_below w5 (.cells #[.int .i64 15, .func (.func 70) #[] #[.pointer (some ⟨i + 1, 0, none⟩), .pointer (some ⟨w.heap.size + 1 + 1, 0, none⟩)]] 96)))
      clear ra rb
      generalize w5.alloc (.cells #[.int .i64 15, .func (.func 70) #[] #[.pointer (some ⟨i + 1, 0, none⟩), .pointer (some ⟨w.heap.size + 1 + 1, 0, none⟩)]] 96) = w6 at *
      generalize w5.heap.size = b6 at *
      refine (rule3 (i + 1) (w.heap.size + 1 + 1) pd e.house e.seq e.day e.prev e.body e.r e.s true w6 HC.out.cpd HRL.out.ce Q2.out).mono ?_
      rintro e' wx ⟨rfl, rfl⟩
      go_wp2_with fail
      rw [rounds_succ]
      obtain ⟨ra, rb⟩ := And.intro HRL.out.r6 HRL.out.r7
      go_wp2_with fail
      replace HC := Lib.hid (HC.out.step (alloc_below w6 (.cells #[.int .i64 17, .func (.func 71) #[] #[.pointer (some ⟨i + 1, 0, none⟩), .pointer (some ⟨w.heap.size + 1 + 1 + 1, 0, none⟩), .pointer (some ⟨w.heap.size + 1, 0, none⟩)]] 96)))
      replace HRL := Lib.hid (HRL.out.step (alloc_below w6 (.cells #[.int .i64 17, .func (.func 71) #[] #[.pointer (some ⟨i + 1, 0, none⟩), .pointer (some ⟨w.heap.size + 1 + 1 + 1, 0, none⟩), .pointer (some ⟨w.heap.size + 1, 0, none⟩)]] 96)))
      clear ra rb
      generalize w6.alloc (.cells #[.int .i64 17, .func (.func 71) #[] #[.pointer (some ⟨i + 1, 0, none⟩), .pointer (some ⟨w.heap.size + 1 + 1 + 1, 0, none⟩), .pointer (some ⟨w.heap.size + 1, 0, none⟩)]] 96) = w7 at *
      generalize w6.heap.size = b7 at *
      refine (rule4 (i + 1) (w.heap.size + 1 + 1 + 1) (w.heap.size + 1) pv y e.house e.seq e.day e.prev e.body e.r e.s true w7 OK.out.house OK.out.seq OK.out.day OK.out.prev OK.out.body HC.out.cpv HC.out.cy HRL.out.ce HC.out.trk.tabs Q3.out).mono ?_
      rintro e' w8 ⟨rfl, hb⟩
      replace HC := Lib.hid (HC.out.step hb)
      replace HRL := Lib.hid (HRL.out.step hb)
      clear hb
      go_wp2_with fail
      rw [rounds_succ]
      go_wp2_with fail
      have HL := Lib.hid (fun w ht => link_raw e.house e.seq e.day e.prev e.body e.r e.s w OK.out.house OK.out.seq OK.out.day OK.out.r OK.out.s OK.out.prev OK.out.body ht)
      obtain ⟨c0, c1, c2, c3, c4, c5, c6⟩ := HRL.out.ce
      have tb := HC.out.bef
      have tp := HC.out.prv
      have hz3 := HRL.out.lt
      have hzn := HC.out.lt
      have l1 : i + 1 < w8.heap.size := by omega
      have l2 : w.heap.size + 1 + 1 < w8.heap.size := by omega
      have l3 : w.heap.size + 1 + 1 + 1 < w8.heap.size := by omega
      have b0 := there_cell tb 0 (by omega)
      have k0 := (tb 0 (by omega)).2
      have b1 := there_cell tb 1 (by omega)
      have k1 := (tb 1 (by omega)).2
      have b2 := there_cell tb 2 (by omega)
      have k2 := (tb 2 (by omega)).2
      have b3 := there_cell tb 3 (by omega)
      have k3 := (tb 3 (by omega)).2
      have b4 := there_cell tb 4 (by omega)
      have k4 := (tb 4 (by omega)).2
      have b5 := there_cell tb 5 (by omega)
      have k5 := (tb 5 (by omega)).2
      have b6 := there_cell tb 6 (by omega)
      have k6 := (tb 6 (by omega)).2
      have b7 := there_cell tp 0 (by omega)
      have k7 := (tp 0 (by omega)).2
      rw [Nat.zero_add] at b0 b1 b2 b3 b4 b5 b6 b7 k0 k1 k2 k3 k4 k5 k6 k7
      clear tb tp hz3 hzn Q0 Q1 Q2 Q3
      go_region_with ((go_at_call 73; refine (HL.out _ (HT0.out.below (B := w.heap.size) (by repeat (first | exact HC.out.trk.bel | refine Below.drew ?_ | refine Below.setCell ?_ (by simp) _)) (Nat.le_refl _))).mono ?_; rintro e' wl ⟨rfl, hbl⟩; have x0 := hbl.cell (p := ⟨i + 1, 0, none⟩) (by simp; omega); have x1 := hbl.cell (p := ⟨i + 1, 1, none⟩) (by simp; omega); have x2 := hbl.cell (p := ⟨i + 1, 2, none⟩) (by simp; omega); have x3 := hbl.cell (p := ⟨i + 1, 3, none⟩) (by simp; omega); have x4 := hbl.cell (p := ⟨i + 1, 4, none⟩) (by simp; omega); have x5 := hbl.cell (p := ⟨i + 1, 5, none⟩) (by simp; omega); have x6 := hbl.cell (p := ⟨i + 1, 6, none⟩) (by simp; omega); have y0 := hbl.cell (p := ⟨w.heap.size + 1 + 1, 0, none⟩) (by simp; omega); have z0 := hbl.frozen (p := ⟨w.heap.size + 1 + 1, 0, none⟩) (by simp; omega); have y1 := hbl.cell (p := ⟨w.heap.size + 1 + 1, 1, none⟩) (by simp; omega); have z1 := hbl.frozen (p := ⟨w.heap.size + 1 + 1, 1, none⟩) (by simp; omega); have y2 := hbl.cell (p := ⟨w.heap.size + 1 + 1, 2, none⟩) (by simp; omega); have z2 := hbl.frozen (p := ⟨w.heap.size + 1 + 1, 2, none⟩) (by simp; omega); have y3 := hbl.cell (p := ⟨w.heap.size + 1 + 1, 3, none⟩) (by simp; omega); have z3 := hbl.frozen (p := ⟨w.heap.size + 1 + 1, 3, none⟩) (by simp; omega); have y4 := hbl.cell (p := ⟨w.heap.size + 1 + 1, 4, none⟩) (by simp; omega); have z4 := hbl.frozen (p := ⟨w.heap.size + 1 + 1, 4, none⟩) (by simp; omega); have y5 := hbl.cell (p := ⟨w.heap.size + 1 + 1, 5, none⟩) (by simp; omega); have z5 := hbl.frozen (p := ⟨w.heap.size + 1 + 1, 5, none⟩) (by simp; omega); have y6 := hbl.cell (p := ⟨w.heap.size + 1 + 1, 6, none⟩) (by simp; omega); have z6 := hbl.frozen (p := ⟨w.heap.size + 1 + 1, 6, none⟩) (by simp; omega); have y7 := hbl.cell (p := ⟨w.heap.size + 1 + 1 + 1, 0, none⟩) (by simp; omega); have z7 := hbl.frozen (p := ⟨w.heap.size + 1 + 1 + 1, 0, none⟩) (by simp; omega)))
      all_goals
        have HBL := Lib.hid (((HC.out.step (drewN_below w8 1)).step hbl).base HT0.out (Nat.le_refl _))
        clear hbl x0 x1 x2 x3 x4 x5 x6 y0 y1 y2 y3 y4 y5 y6 y7 z0 z1 z2 z3 z4 z5 z6 z7 b0 b1 b2 b3 b4 b5 b6 b7 k0 k1 k2 k3 k4 k5 k6 k7 c0 c1 c2 c3 c4 c5 c6
        go_wp2_with fail
        go_roundg (gk - 1)
        case measure => omega
        case rel => exact ⟨k + 1, e.day, e.dig, by omega, rfl, rfl, by go_num, HRN.out, by first | exact close1 HBL.out | exact close2 HBL.out | exact (close1 HBL.out).drew | exact (close2 HBL.out).drew | exact (close1 HBL.out).drew.drew | exact (close2 HBL.out).drew.drew⟩
    · obtain rfl : gk = 0 := by omega
      obtain rfl : k = l.length := by omega
      have HRES : Hid (res = (0, -1)) := Lib.hid (by rw [← HR.out, List.drop_length]; rfl)
      go_wp2_with fail
      try rw [Exit.noGoto_ret]
      go_ret2
      exact ⟨by rw [HRS.out, HRES.out]; rfl, HC.out.trk.bel⟩
/-- What chain.Check returns. -/
@[irreducible] def chkE (ho y : Int) (l : List Ent) : Int × Int := if ho < 0 ∨ 12 ≤ ho ∨ y < 1 ∨ 2147483647 ≤ y then (1, -1) else chkFrom ho y 0 0 ⟨#[]⟩ l
theorem chkE_eq (ho y : Int) (l : List Ent) : chkE ho y l = if ho < 0 ∨ 12 ≤ ho ∨ y < 1 ∨ 2147483647 ≤ y then (1, -1) else chkFrom ho y 0 0 ⟨#[]⟩ l := by unfold chkE; rfl
set_option maxHeartbeats 1000000 in
set_option maxRecDepth 100000 in
theorem Check_arg (ho y : Int) (v : Value) (w : World) (b1 b2 b3 b4 : Bool) (h1 : decide (ho < 0) = b1) (h2 : decide (12 ≤ ho) = b2) (h3 : decide (y < 1) = b3) (h4 : decide (2147483647 ≤ y) = b4) (hb : (b1 || b2 || b3 || b4) = true) :
    Calls Tryd.prog 38 #[v, .int .i64 ho, .int .i64 y] w fun e w' => e = .returned (.tuple #[.int .i64 1, .int .i64 (-1)]) ∧ Below w.heap.size w w' := by
  have HB := Lib.hid (((Below.refl w.heap.size w).alloc (Nat.le_refl _) (.cells #[.int .i64 ho] 3)).alloc (by simp) (.cells #[.int .i64 y] 3))
  cases b1 <;> cases b2 <;> cases b3 <;> cases b4
  all_goals first
    | (exfalso; revert hb; decide)
    | (clear hb
       go_enter Tryd.func38, Tryd.ntmps38
       go_wp2_with fail
       go_step3
       go_wp2_with fail
       try rw [Exit.noGoto_ret]
       go_ret2
       exact ⟨rfl, HB.out⟩)
/-- Check, at every list of entries. -/
theorem Check_any (ho y : Int) (l : List Ent) (ao : Option Addr) (lb lo c : Nat) (w : World) (hl : l.length ≤ 100) (hok : ∀ e ∈ l, e.Ok) (hat : EntsAt w ao lb lo l) (ht : Tabs w) :
    Calls Tryd.prog 38 #[.slice ao l.length c, .int .i64 ho, .int .i64 y] w fun e w' => e = .returned (.tuple #[.int .i64 (chkE ho y l).1, .int .i64 (chkE ho y l).2]) ∧ Below w.heap.size w w' := by
  rw [chkE_eq]
  by_cases h : ho < 0 ∨ 12 ≤ ho ∨ y < 1 ∨ 2147483647 ≤ y
  · rw [if_pos h]
    refine Check_arg ho y _ w _ _ _ _ rfl rfl rfl rfl ?_
    simp only [Bool.or_eq_true, decide_eq_true_eq]
    rcases h with h | h | h | h
    · exact .inl (.inl (.inl h))
    · exact .inl (.inl (.inr h))
    · exact .inl (.inr h)
    · exact .inr h
  · rw [if_neg h]
    exact Check_in ho y l ao lb lo c w (by omega) (by omega) (by omega) (by omega) hl hok hat ht
end Go.Proofs.YtpdbcahiipbhnaaDoor
