/- Layer 34: the laws' head. -/
import Derived.Test.YtpdbcahiipbhnaaDoorN9
import Derived.Deep.RegionHeldLaw
import Derived.Laws.EntriesVeiled
namespace Go.Proofs.YtpdbcahiipbhnaaDoor
open Go.RowKit

theorem Own.strs {w : World} {B : Nat} {v : Value} {ss : List ByteArray} (h : Own w B 1 v ss.length (ss.map Value.string)) : ∃ ao cap lb lo, v = .slice ao ss.length cap ∧ StrsAt w ao lb lo ss ∧ ss.length ≤ cap := by
  rcases h.2 with ⟨rfl, h0⟩ | ⟨g, o, cap, rfl, _, hgs, hcp, _, hr, _⟩
  · have hl : ss = [] := List.eq_nil_of_length_eq_zero h0
    subst hl
    exact ⟨none, 0, 0, 0, rfl, ⟨fun h => by simp at h, fun i e he => by simp at he⟩, Nat.le_refl _⟩
  · exact ⟨some ⟨g, o, none⟩, cap, g, o, rfl, ⟨fun _ => ⟨rfl, hgs⟩, fun i s hs => hr i _ (by rw [List.getElem?_map, hs]; rfl)⟩, hcp⟩
/-- Prove's path, as a list of texts in memory. -/
theorem Prove_strs (l : List ByteArray) (ao : Option Addr) (lb lo c : Nat) (i : Nat) (w : World) (hl : l.length ≤ 1000) (hs : ∀ s ∈ l, s.size ≤ 100000) (hi : i < l.length) (hc : l.length ≤ c) (hat : StrsAt w ao lb lo l) (ht : Tabs w) :
    Calls Tryd.prog 20 #[.slice ao l.length c, .int .i64 i] w fun e W' => ∃ ao cap lb lo, e = .returned (.tuple #[.slice ao (pathL nodB (leafAt l) i l.length).length cap, .int .i64 0]) ∧ StrsAt W' ao lb lo (pathL nodB (leafAt l) i l.length) ∧ (pathL nodB (leafAt l) i l.length).length ≤ cap ∧ Below w.heap.size w W' := by
  obtain ⟨rfl, _⟩ := hat.ao (by omega)
  refine (Prove_ok l lb lo c i w hl hs hi hc hat ht).mono ?_
  rintro e W ⟨v, rfl, hO, hb⟩
  obtain ⟨a, cap, b, o, rfl, hS, hcp⟩ := hO.strs
  exact ⟨a, cap, b, o, rfl, hS, hcp, hb⟩
theorem halfN_3 : halfN 3 = 2 := by rw [halfN_eq]; decide
theorem halfN_2 : halfN 2 = 1 := by rw [halfN_eq]; decide
abbrev cB : ByteArray := ⟨#[99]⟩
theorem root3 (a b c : ByteArray) : rootB [a, b, c] = nodB (nodB a b) c := by
  rw [rootB_pos (by simp)]
  show rootR nodB (leafAt [a, b, c]) 0 3 = _
  rw [rootR_two _ _ _ _ (by decide), halfN_3, rootR_two _ _ _ _ (by decide), halfN_2, rootR_one _ _ _ _ (by decide), rootR_one _ _ _ _ (by decide), rootR_one _ _ _ _ (by decide)]
  rfl
theorem lvls_1 : lvls 1 0 3 = [⟨0, 2, 3, true⟩, ⟨0, 1, 2, false⟩] := by
  rw [lvls_two _ _ _ (by decide), halfN_3, if_pos (by decide), lvls_two _ _ _ (by decide), halfN_2, if_neg (by decide), lvls_one _ _ _ (by decide)]; rfl
theorem lvls_2 : lvls 2 0 3 = [⟨0, 2, 3, false⟩] := by
  rw [lvls_two _ _ _ (by decide), halfN_3, if_neg (by decide), lvls_one _ _ _ (by decide)]; rfl
theorem lvls_0 : lvls 0 0 3 = [⟨0, 2, 3, true⟩, ⟨0, 1, 2, true⟩] := by
  rw [lvls_two _ _ _ (by decide), halfN_3, if_pos (by decide), lvls_two _ _ _ (by decide), halfN_2, if_pos (by decide), lvls_one _ _ _ (by decide)]; rfl
theorem path_1 (a b c : ByteArray) : pathL nodB (leafAt [a, b, c]) 1 3 = [a, c] := by
  unfold pathL
  rw [lvls_1]
  simp only [List.map_cons, List.map_nil, besideL, List.reverse_cons, List.reverse_nil, List.nil_append, List.cons_append, if_true]
  simp only [Bool.false_eq_true, if_false]
  rw [rootR_one _ _ 0 _ (by decide), rootR_one _ _ 2 _ (by decide)]
  rfl
theorem path_2 (a b c : ByteArray) : pathL nodB (leafAt [a, b, c]) 2 3 = [nodB a b] := by
  unfold pathL
  rw [lvls_2]
  simp only [List.map_cons, List.map_nil, besideL, List.reverse_cons, List.reverse_nil, List.nil_append, Bool.false_eq_true, if_false]
  rw [rootR_two _ _ _ _ (by decide), halfN_2, rootR_one _ _ _ _ (by decide), rootR_one _ _ _ _ (by decide)]
  rfl
theorem chk_1 (r x a c : ByteArray) : checkB r 3 1 x [a, c] = decide (nodB (nodB a x) c = r) := by
  rw [Bool.eq_iff_iff, checkB_iff, decide_eq_true_eq]
  show ¬ _ ∧ (lvls 1 0 3).length = 2 ∧ leadL nodB x (lvls 1 0 3).reverse [a, c] = r ↔ _
  rw [lvls_1]
  exact ⟨fun h => h.2.2, fun h => ⟨by decide, rfl, h⟩⟩
theorem chk_0 (r x a c : ByteArray) : checkB r 3 0 x [a, c] = decide (nodB (nodB x a) c = r) := by
  rw [Bool.eq_iff_iff, checkB_iff, decide_eq_true_eq]
  show ¬ _ ∧ (lvls 0 0 3).length = 2 ∧ leadL nodB x (lvls 0 0 3).reverse [a, c] = r ↔ _
  rw [lvls_0]
  exact ⟨fun h => h.2.2, fun h => ⟨by decide, rfl, h⟩⟩
theorem keep_hb {w0 w w' : World} {n1 n2 : Nat} (l0 : n1 < w0.heap.size) (l1 : n2 < w0.heap.size) (hb : Below w.heap.size w w') (H : w.cell? ⟨n1, 0, none⟩ = some (.int .i64 1) ∧ w.cell? ⟨n1, 1, none⟩ = some (.int .i64 0) ∧ w.cell? ⟨n1, 2, none⟩ = some (.int .i64 0) ∧ w.cell? ⟨n1, 3, none⟩ = some (.int .i64 2) ∧ w.cell? ⟨n1, 4, none⟩ = some (.int .i64 0) ∧ w.cell? ⟨n1, 5, none⟩ = some (.bool false) ∧ w.cell? ⟨n2, 0, none⟩ = some (.int .i64 2) ∧ w.cell? ⟨n2, 1, none⟩ = some (.int .i64 0) ∧ w.cell? ⟨n2, 2, none⟩ = some (.int .i64 0) ∧ w.cell? ⟨n2, 3, none⟩ = some (.int .i64 2) ∧ w.cell? ⟨n2, 4, none⟩ = some (.int .i64 0) ∧ w.cell? ⟨n2, 5, none⟩ = some (.bool false) ∧ Trk w0 w) : w'.cell? ⟨n1, 0, none⟩ = some (.int .i64 1) ∧ w'.cell? ⟨n1, 1, none⟩ = some (.int .i64 0) ∧ w'.cell? ⟨n1, 2, none⟩ = some (.int .i64 0) ∧ w'.cell? ⟨n1, 3, none⟩ = some (.int .i64 2) ∧ w'.cell? ⟨n1, 4, none⟩ = some (.int .i64 0) ∧ w'.cell? ⟨n1, 5, none⟩ = some (.bool false) ∧ w'.cell? ⟨n2, 0, none⟩ = some (.int .i64 2) ∧ w'.cell? ⟨n2, 1, none⟩ = some (.int .i64 0) ∧ w'.cell? ⟨n2, 2, none⟩ = some (.int .i64 0) ∧ w'.cell? ⟨n2, 3, none⟩ = some (.int .i64 2) ∧ w'.cell? ⟨n2, 4, none⟩ = some (.int .i64 0) ∧ w'.cell? ⟨n2, 5, none⟩ = some (.bool false) ∧ Trk w0 w' :=
  ⟨(hb.cell (p := ⟨n1, 0, none⟩) (Nat.lt_of_lt_of_le l0 H.2.2.2.2.2.2.2.2.2.2.2.2.bel.size)).trans H.1, (hb.cell (p := ⟨n1, 1, none⟩) (Nat.lt_of_lt_of_le l0 H.2.2.2.2.2.2.2.2.2.2.2.2.bel.size)).trans H.2.1, (hb.cell (p := ⟨n1, 2, none⟩) (Nat.lt_of_lt_of_le l0 H.2.2.2.2.2.2.2.2.2.2.2.2.bel.size)).trans H.2.2.1, (hb.cell (p := ⟨n1, 3, none⟩) (Nat.lt_of_lt_of_le l0 H.2.2.2.2.2.2.2.2.2.2.2.2.bel.size)).trans H.2.2.2.1, (hb.cell (p := ⟨n1, 4, none⟩) (Nat.lt_of_lt_of_le l0 H.2.2.2.2.2.2.2.2.2.2.2.2.bel.size)).trans H.2.2.2.2.1, (hb.cell (p := ⟨n1, 5, none⟩) (Nat.lt_of_lt_of_le l0 H.2.2.2.2.2.2.2.2.2.2.2.2.bel.size)).trans H.2.2.2.2.2.1, (hb.cell (p := ⟨n2, 0, none⟩) (Nat.lt_of_lt_of_le l1 H.2.2.2.2.2.2.2.2.2.2.2.2.bel.size)).trans H.2.2.2.2.2.2.1, (hb.cell (p := ⟨n2, 1, none⟩) (Nat.lt_of_lt_of_le l1 H.2.2.2.2.2.2.2.2.2.2.2.2.bel.size)).trans H.2.2.2.2.2.2.2.1, (hb.cell (p := ⟨n2, 2, none⟩) (Nat.lt_of_lt_of_le l1 H.2.2.2.2.2.2.2.2.2.2.2.2.bel.size)).trans H.2.2.2.2.2.2.2.2.1, (hb.cell (p := ⟨n2, 3, none⟩) (Nat.lt_of_lt_of_le l1 H.2.2.2.2.2.2.2.2.2.2.2.2.bel.size)).trans H.2.2.2.2.2.2.2.2.2.1, (hb.cell (p := ⟨n2, 4, none⟩) (Nat.lt_of_lt_of_le l1 H.2.2.2.2.2.2.2.2.2.2.2.2.bel.size)).trans H.2.2.2.2.2.2.2.2.2.2.1, (hb.cell (p := ⟨n2, 5, none⟩) (Nat.lt_of_lt_of_le l1 H.2.2.2.2.2.2.2.2.2.2.2.2.bel.size)).trans H.2.2.2.2.2.2.2.2.2.2.2.1, H.2.2.2.2.2.2.2.2.2.2.2.2.step hb⟩
theorem held_hb {w0 w : World} {n1 n2 : Nat} (H : w.cell? ⟨n1, 0, none⟩ = some (.int .i64 1) ∧ w.cell? ⟨n1, 1, none⟩ = some (.int .i64 0) ∧ w.cell? ⟨n1, 2, none⟩ = some (.int .i64 0) ∧ w.cell? ⟨n1, 3, none⟩ = some (.int .i64 2) ∧ w.cell? ⟨n1, 4, none⟩ = some (.int .i64 0) ∧ w.cell? ⟨n1, 5, none⟩ = some (.bool false) ∧ w.cell? ⟨n2, 0, none⟩ = some (.int .i64 2) ∧ w.cell? ⟨n2, 1, none⟩ = some (.int .i64 0) ∧ w.cell? ⟨n2, 2, none⟩ = some (.int .i64 0) ∧ w.cell? ⟨n2, 3, none⟩ = some (.int .i64 2) ∧ w.cell? ⟨n2, 4, none⟩ = some (.int .i64 0) ∧ w.cell? ⟨n2, 5, none⟩ = some (.bool false) ∧ Trk w0 w) : Trk w0 w := H.2.2.2.2.2.2.2.2.2.2.2.2
theorem ini_hb {w0 w : World} {n1 n2 : Nat} (h0 : w.cell? ⟨n1, 0, none⟩ = some (.int .i64 1)) (h1 : w.cell? ⟨n1, 1, none⟩ = some (.int .i64 0)) (h2 : w.cell? ⟨n1, 2, none⟩ = some (.int .i64 0)) (h3 : w.cell? ⟨n1, 3, none⟩ = some (.int .i64 2)) (h4 : w.cell? ⟨n1, 4, none⟩ = some (.int .i64 0)) (h5 : w.cell? ⟨n1, 5, none⟩ = some (.bool false)) (h6 : w.cell? ⟨n2, 0, none⟩ = some (.int .i64 2)) (h7 : w.cell? ⟨n2, 1, none⟩ = some (.int .i64 0)) (h8 : w.cell? ⟨n2, 2, none⟩ = some (.int .i64 0)) (h9 : w.cell? ⟨n2, 3, none⟩ = some (.int .i64 2)) (h10 : w.cell? ⟨n2, 4, none⟩ = some (.int .i64 0)) (h11 : w.cell? ⟨n2, 5, none⟩ = some (.bool false)) (ht : Trk w0 w) : w.cell? ⟨n1, 0, none⟩ = some (.int .i64 1) ∧ w.cell? ⟨n1, 1, none⟩ = some (.int .i64 0) ∧ w.cell? ⟨n1, 2, none⟩ = some (.int .i64 0) ∧ w.cell? ⟨n1, 3, none⟩ = some (.int .i64 2) ∧ w.cell? ⟨n1, 4, none⟩ = some (.int .i64 0) ∧ w.cell? ⟨n1, 5, none⟩ = some (.bool false) ∧ w.cell? ⟨n2, 0, none⟩ = some (.int .i64 2) ∧ w.cell? ⟨n2, 1, none⟩ = some (.int .i64 0) ∧ w.cell? ⟨n2, 2, none⟩ = some (.int .i64 0) ∧ w.cell? ⟨n2, 3, none⟩ = some (.int .i64 2) ∧ w.cell? ⟨n2, 4, none⟩ = some (.int .i64 0) ∧ w.cell? ⟨n2, 5, none⟩ = some (.bool false) ∧ Trk w0 w :=
  ⟨h0, h1, h2, h3, h4, h5, h6, h7, h8, h9, h10, h11, ht⟩
/-- The head's two facts, its three leaves. -/
structure Hd0 (w0 W : World) (n1 n2 g : Nat) (l0 l1 : ByteArray) : Prop where
  trk : Trk w0 W
  xs : ∀ (j : Nat) v, (#[.int .i64 1, .int .i64 0, .int .i64 0, .int .i64 2, .int .i64 0, .bool false] : Array Value)[j]? = some v → W.cell? ⟨n1, j, none⟩ = some v
  ys : ∀ (j : Nat) v, (#[.int .i64 2, .int .i64 0, .int .i64 0, .int .i64 2, .int .i64 0, .bool false] : Array Value)[j]? = some v → W.cell? ⟨n2, j, none⟩ = some v
  l : StrsAt W (some ⟨g, 0, none⟩) g 0 [l0, l1, cB]
  h1 : n1 < W.heap.size
  h2 : n2 < W.heap.size
theorem Hd0.step {w0 w w' : World} {n1 n2 g : Nat} {l0 l1 : ByteArray} (h : Hd0 w0 w n1 n2 g l0 l1) (hb : Below w.heap.size w w') : Hd0 w0 w' n1 n2 g l0 l1 :=
  ⟨h.trk.step hb, fun j v hj => (hb.cell (p := ⟨n1, j, none⟩) h.h1).trans (h.xs j v hj), fun j v hj => (hb.cell (p := ⟨n2, j, none⟩) h.h2).trans (h.ys j v hj), h.l.step hb, Nat.lt_of_lt_of_le h.h1 hb.size, Nat.lt_of_lt_of_le h.h2 hb.size⟩
theorem Hd0.rebase {w0 w : World} {n1 n2 g : Nat} {l0 l1 : ByteArray} (h : Hd0 w0 w n1 n2 g l0 l1) : Hd0 w w n1 n2 g l0 l1 := ⟨Trk.start h.trk.tabs, h.xs, h.ys, h.l, h.h1, h.h2⟩
/-- .. and the two paths. -/
structure Hd1 (w0 W : World) (n1 n2 g : Nat) (l0 l1 n01 : ByteArray) (pa : Option Addr) (pb po : Nat) (qa : Option Addr) (qb qo : Nat) : Prop where
  h : Hd0 w0 W n1 n2 g l0 l1
  p : StrsAt W pa pb po [l0, cB]
  q : StrsAt W qa qb qo [n01]
theorem Hd1.step {w0 w w' : World} {n1 n2 g : Nat} {l0 l1 n01 : ByteArray} {pa : Option Addr} {pb po : Nat} {qa : Option Addr} {qb qo : Nat} (h : Hd1 w0 w n1 n2 g l0 l1 n01 pa pb po qa qb qo) (hb : Below w.heap.size w w') : Hd1 w0 w' n1 n2 g l0 l1 n01 pa pb po qa qb qo :=
  ⟨h.h.step hb, h.p.step hb, h.q.step hb⟩
theorem keep_hd {w0 w w' : World} {n1 n2 g : Nat} {l0 l1 n01 : ByteArray} {pa : Option Addr} {pb po : Nat} {qa : Option Addr} {qb qo : Nat} (hb : Below w.heap.size w w') (H : w.cell? ⟨g, 0, none⟩ = some (.string l0) ∧ w.cell? ⟨g, 1, none⟩ = some (.string l1) ∧ Hd1 w0 w n1 n2 g l0 l1 n01 pa pb po qa qb qo) : w'.cell? ⟨g, 0, none⟩ = some (.string l0) ∧ w'.cell? ⟨g, 1, none⟩ = some (.string l1) ∧ Hd1 w0 w' n1 n2 g l0 l1 n01 pa pb po qa qb qo :=
  have hg := (H.2.2.h.l.ao (by simp)).2
  ⟨(hb.cell (p := ⟨g, 0, none⟩) hg).trans H.1, (hb.cell (p := ⟨g, 1, none⟩) hg).trans H.2.1, H.2.2.step hb⟩
theorem hd_p {w0 w : World} {n1 n2 g : Nat} {l0 l1 n01 : ByteArray} {pa : Option Addr} {pb po : Nat} {qa : Option Addr} {qb qo : Nat} (H : w.cell? ⟨g, 0, none⟩ = some (.string l0) ∧ w.cell? ⟨g, 1, none⟩ = some (.string l1) ∧ Hd1 w0 w n1 n2 g l0 l1 n01 pa pb po qa qb qo) : StrsAt w pa pb po [l0, cB] := H.2.2.p
theorem hd_q {w0 w : World} {n1 n2 g : Nat} {l0 l1 n01 : ByteArray} {pa : Option Addr} {pb po : Nat} {qa : Option Addr} {qb qo : Nat} (H : w.cell? ⟨g, 0, none⟩ = some (.string l0) ∧ w.cell? ⟨g, 1, none⟩ = some (.string l1) ∧ Hd1 w0 w n1 n2 g l0 l1 n01 pa pb po qa qb qo) : StrsAt w qa qb qo [n01] := H.2.2.q
theorem hd_h {w0 w : World} {n1 n2 g : Nat} {l0 l1 n01 : ByteArray} {pa : Option Addr} {pb po : Nat} {qa : Option Addr} {qb qo : Nat} (H : w.cell? ⟨g, 0, none⟩ = some (.string l0) ∧ w.cell? ⟨g, 1, none⟩ = some (.string l1) ∧ Hd1 w0 w n1 n2 g l0 l1 n01 pa pb po qa qb qo) : Hd1 w0 w n1 n2 g l0 l1 n01 pa pb po qa qb qo := H.2.2
theorem hd_t {w0 w : World} {n1 n2 g : Nat} {l0 l1 n01 : ByteArray} {pa : Option Addr} {pb po : Nat} {qa : Option Addr} {qb qo : Nat} (H : w.cell? ⟨g, 0, none⟩ = some (.string l0) ∧ w.cell? ⟨g, 1, none⟩ = some (.string l1) ∧ Hd1 w0 w n1 n2 g l0 l1 n01 pa pb po qa qb qo) : Tabs w := H.2.2.h.trk.tabs
theorem strs_two (w : World) (a b : ByteArray) (t : TypeId) : StrsAt (w.alloc (.cells #[.string a, .string b] t)) (some ⟨w.heap.size, 0, none⟩) w.heap.size 0 [a, b] := ⟨fun _ => ⟨rfl, by simp⟩, fun i s hs => by
  match i, hs with
  | 0, hs => cases hs; exact new0 rfl rfl
  | 1, hs => cases hs; exact new0 rfl rfl⟩
theorem strs_one (w : World) (a : ByteArray) (t : TypeId) : StrsAt (w.alloc (.cells #[.string a] t)) (some ⟨w.heap.size, 0, none⟩) w.heap.size 0 [a] := ⟨fun _ => ⟨rfl, by simp⟩, fun i s hs => by
  match i, hs with
  | 0, hs => cases hs; exact new0 rfl rfl⟩
set_option maxHeartbeats 8000000 in
set_option maxRecDepth 100000 in
theorem head34_main (l0 l1 n01 r z : ByteArray) (w : World) (ht : Tabs w)
    (hX : ∀ w, Tabs w → Calls Tryd.prog 22 #[.agg #[.int .i64 1, .int .i64 0, .int .i64 0, .int .i64 2, .int .i64 0, .bool false], .string ⟨#[115]⟩] w fun e w' => e = .returned (.string l0) ∧ Below w.heap.size w w')
    (hY : ∀ w, Tabs w → Calls Tryd.prog 22 #[.agg #[.int .i64 2, .int .i64 0, .int .i64 0, .int .i64 2, .int .i64 0, .bool false], .string ⟨#[116]⟩] w fun e w' => e = .returned (.string l1) ∧ Below w.heap.size w w')
    (hR : ∀ w g c (_ : Unit), StrsAt w (some ⟨g, 0, none⟩) g 0 [l0, l1, cB] → Tabs w → Calls Tryd.prog 24 #[.slice (some ⟨g, 0, none⟩) 3 c] w fun e w' => e = .returned (.string r) ∧ Below w.heap.size w w')
    (hP1 : ∀ w g (_ : Unit) (_ : Unit), StrsAt w (some ⟨g, 0, none⟩) g 0 [l0, l1, cB] → Tabs w → Calls Tryd.prog 20 #[.slice (some ⟨g, 0, none⟩) 3 3, .int .i64 1] w fun e w' => ∃ ao cap lb lo, e = .returned (.tuple #[.slice ao 2 cap, .int .i64 0]) ∧ StrsAt w' ao lb lo [l0, cB] ∧ Below w.heap.size w w')
    (hP2 : ∀ w g (_ : Unit) (_ : Unit), StrsAt w (some ⟨g, 0, none⟩) g 0 [l0, l1, cB] → Tabs w → Calls Tryd.prog 20 #[.slice (some ⟨g, 0, none⟩) 3 3, .int .i64 2] w fun e w' => ∃ ao cap lb lo, e = .returned (.tuple #[.slice ao 1 cap, .int .i64 0]) ∧ StrsAt w' ao lb lo [n01] ∧ Below w.heap.size w w')
    (hN1 : ∀ w, Tabs w → Calls Tryd.prog 34 #[.string l0, .string l1] w fun e w' => e = .returned (.string n01) ∧ Below w.heap.size w w')
    (hN2 : ∀ w, Tabs w → Calls Tryd.prog 34 #[.string n01, .string ⟨#[99]⟩] w fun e w' => e = .returned (.string r) ∧ Below w.heap.size w w')
    (hC1 : ∀ w ao cap lb lo, StrsAt w ao lb lo [l0, cB] → Tabs w → Calls Tryd.prog 27 #[.string r, .int .i64 3, .int .i64 1, .agg #[.int .i64 2, .int .i64 0, .int .i64 0, .int .i64 2, .int .i64 0, .bool false], .string ⟨#[116]⟩, .slice ao 2 cap] w fun e w' => e = .returned (.bool true) ∧ Below w.heap.size w w')
    (hC2 : ∀ w ao cap lb lo, StrsAt w ao lb lo [l0, cB] → Tabs w → Calls Tryd.prog 27 #[.string r, .int .i64 3, .int .i64 0, .agg #[.int .i64 2, .int .i64 0, .int .i64 0, .int .i64 2, .int .i64 0, .bool false], .string ⟨#[116]⟩, .slice ao 2 cap] w fun e w' => e = .returned (.bool false) ∧ Below w.heap.size w w')
    (hC3 : ∀ w ao cap lb lo, StrsAt w ao lb lo [l0, cB] → Tabs w → Calls Tryd.prog 27 #[.string r, .int .i64 3, .int .i64 1, .agg #[.int .i64 1, .int .i64 0, .int .i64 0, .int .i64 2, .int .i64 0, .bool false], .string ⟨#[116]⟩, .slice ao 2 cap] w fun e w' => e = .returned (.bool false) ∧ Below w.heap.size w w')
    (hC4 : ∀ w ao cap lb lo, StrsAt w ao lb lo [l0, cB] → Tabs w → Calls Tryd.prog 27 #[.string r, .int .i64 3, .int .i64 1, .agg #[.int .i64 2, .int .i64 0, .int .i64 0, .int .i64 2, .int .i64 0, .bool false], .string ⟨#[115]⟩, .slice ao 2 cap] w fun e w' => e = .returned (.bool false) ∧ Below w.heap.size w w')
    (hZ1 : ∀ w, Tabs w → Calls Tryd.prog 24 #[.slice none 0 0] w fun e w' => e = .returned (.string z) ∧ Below w.heap.size w w')
    (hZ2 : ∀ w, Tabs w → Calls Tryd.prog 50 #[.string ⟨#[110, 111, 110, 101]⟩] w fun e w' => e = .returned (.string z) ∧ Below w.heap.size w w') :
    Calls Tryd.prog 18 #[] w fun e w' => e = .returned (.bool true) ∧ Below w.heap.size w w' := by
  have FX := Lib.hid hX
  have FY := Lib.hid hY
  have FR := Lib.hid hR
  have FP1 := Lib.hid hP1
  have FP2 := Lib.hid hP2
  have FP3 := Lib.hid (fun g w => Prove_high (some ⟨g, 0, none⟩) 3 3 3 w (by decide) (by decide))
  have FN1 := Lib.hid hN1
  have FN2 := Lib.hid hN2
  have FC1 := Lib.hid hC1
  have FC2 := Lib.hid hC2
  have FC3 := Lib.hid hC3
  have FC4 := Lib.hid hC4
  have FZ1 := Lib.hid hZ1
  have FZ2 := Lib.hid hZ2
  have HBW := Lib.hid ((((Below.refl w.heap.size w).alloc (Nat.le_refl _) (.cells #[.int .i64 1, .int .i64 0, .int .i64 0, .int .i64 2, .int .i64 0, .bool false] 24))).alloc (by simp) (.cells #[.int .i64 2, .int .i64 0, .int .i64 0, .int .i64 2, .int .i64 0, .bool false] 24))
  have T2 := Lib.hid (((Trk.start ht).alloc (.cells #[.int .i64 1, .int .i64 0, .int .i64 0, .int .i64 2, .int .i64 0, .bool false] 24)).alloc (.cells #[.int .i64 2, .int .i64 0, .int .i64 0, .int .i64 2, .int .i64 0, .bool false] 24))
  have z1 : (w.alloc (.cells #[.int .i64 1, .int .i64 0, .int .i64 0, .int .i64 2, .int .i64 0, .bool false] 24)).heap.size = w.heap.size + 1 := by simp
  have hl1 : w.heap.size < ((w.alloc (.cells #[.int .i64 1, .int .i64 0, .int .i64 0, .int .i64 2, .int .i64 0, .bool false] 24)).alloc (.cells #[.int .i64 2, .int .i64 0, .int .i64 0, .int .i64 2, .int .i64 0, .bool false] 24)).heap.size := by simp; omega
  have hl2 : w.heap.size + 1 < ((w.alloc (.cells #[.int .i64 1, .int .i64 0, .int .i64 0, .int .i64 2, .int .i64 0, .bool false] 24)).alloc (.cells #[.int .i64 2, .int .i64 0, .int .i64 0, .int .i64 2, .int .i64 0, .bool false] 24)).heap.size := by simp
  have cx := fun j v (hj : (#[.int .i64 1, .int .i64 0, .int .i64 0, .int .i64 2, .int .i64 0, .bool false] : Array Value)[j]? = some v) => ((alloc_below (w.alloc (.cells #[.int .i64 1, .int .i64 0, .int .i64 0, .int .i64 2, .int .i64 0, .bool false] 24)) (.cells #[.int .i64 2, .int .i64 0, .int .i64 0, .int .i64 2, .int .i64 0, .bool false] 24)).cell (p := ⟨w.heap.size, j, none⟩) (by show w.heap.size < _; omega)).trans (new0 (w := w) (c := #[.int .i64 1, .int .i64 0, .int .i64 0, .int .i64 2, .int .i64 0, .bool false]) (t := 24) (n := w.heap.size) (i := j) (v := v) rfl hj)
  have cy := fun j v (hj : (#[.int .i64 2, .int .i64 0, .int .i64 0, .int .i64 2, .int .i64 0, .bool false] : Array Value)[j]? = some v) => new0 (w := w.alloc (.cells #[.int .i64 1, .int .i64 0, .int .i64 0, .int .i64 2, .int .i64 0, .bool false] 24)) (c := #[.int .i64 2, .int .i64 0, .int .i64 0, .int .i64 2, .int .i64 0, .bool false]) (t := 24) (n := w.heap.size + 1) (i := j) (v := v) z1.symm hj
  have HINI := Lib.hid (ini_hb (cx 0 _ rfl) (cx 1 _ rfl) (cx 2 _ rfl) (cx 3 _ rfl) (cx 4 _ rfl) (cx 5 _ rfl) (cy 0 _ rfl) (cy 1 _ rfl) (cy 2 _ rfl) (cy 3 _ rfl) (cy 4 _ rfl) (cy 5 _ rfl) (Trk.start T2.out.tabs))
  clear cx cy z1 hX hY ht hR hP1 hP2 hN1 hN2 hC1 hC2 hC3 hC4 hZ1 hZ2
  go_enter Tryd.func18, Tryd.ntmps18
  go_wp2_with fail
  generalize ((w.alloc (.cells #[.int .i64 1, .int .i64 0, .int .i64 0, .int .i64 2, .int .i64 0, .bool false] 24)).alloc (.cells #[.int .i64 2, .int .i64 0, .int .i64 0, .int .i64 2, .int .i64 0, .bool false] 24)) = w2 at *
  go_region_held_law (fun w' => w'.cell? ⟨w.heap.size, 0, none⟩ = some (.int .i64 1) ∧ w'.cell? ⟨w.heap.size, 1, none⟩ = some (.int .i64 0) ∧ w'.cell? ⟨w.heap.size, 2, none⟩ = some (.int .i64 0) ∧ w'.cell? ⟨w.heap.size, 3, none⟩ = some (.int .i64 2) ∧ w'.cell? ⟨w.heap.size, 4, none⟩ = some (.int .i64 0) ∧ w'.cell? ⟨w.heap.size, 5, none⟩ = some (.bool false) ∧ w'.cell? ⟨w.heap.size + 1, 0, none⟩ = some (.int .i64 2) ∧ w'.cell? ⟨w.heap.size + 1, 1, none⟩ = some (.int .i64 0) ∧ w'.cell? ⟨w.heap.size + 1, 2, none⟩ = some (.int .i64 0) ∧ w'.cell? ⟨w.heap.size + 1, 3, none⟩ = some (.int .i64 2) ∧ w'.cell? ⟨w.heap.size + 1, 4, none⟩ = some (.int .i64 0) ∧ w'.cell? ⟨w.heap.size + 1, 5, none⟩ = some (.bool false) ∧ Trk w2 w') (first | (with_reducible assumption) | (with_reducible exact HINI.out) | (with_reducible refine keep_hb hl1 hl2 hba ?_; with_reducible assumption) | (with_reducible refine keep_hb hl1 hl2 hbb ?_; with_reducible assumption) | (refine keep_hb hl1 hl2 (drewN_below _ 1) ?_; first | (with_reducible assumption) | (with_reducible exact HINI.out)) | (refine keep_hb hl1 hl2 (alloc_below _ _) ?_; first | (with_reducible assumption) | (with_reducible exact HINI.out))) (first | (go_at_call_of 22 (Value.string ⟨#[115]⟩); with_reducible refine (FX.out _ ?TT).mono ?_; (case TT => exact (by first | exact (held_hb (by assumption)).tabs | exact T2.out.tabs | exact T2.out.tabs.drew)); rintro e wa ⟨rfl, hba⟩) | (go_at_call_of 22 (Value.string ⟨#[116]⟩); with_reducible refine (FY.out _ ?TT).mono ?_; (case TT => exact (by first | exact (held_hb (by assumption)).tabs | exact T2.out.tabs | exact T2.out.tabs.drew)); rintro e wb ⟨rfl, hbb⟩))
  have H3 : (wb.alloc (.cells #[.string l0, .string l1, .string ⟨#[99]⟩] 9)).cell? ⟨w.heap.size, 0, none⟩ = some (.int .i64 1) ∧ (wb.alloc (.cells #[.string l0, .string l1, .string ⟨#[99]⟩] 9)).cell? ⟨w.heap.size, 1, none⟩ = some (.int .i64 0) ∧ (wb.alloc (.cells #[.string l0, .string l1, .string ⟨#[99]⟩] 9)).cell? ⟨w.heap.size, 2, none⟩ = some (.int .i64 0) ∧ (wb.alloc (.cells #[.string l0, .string l1, .string ⟨#[99]⟩] 9)).cell? ⟨w.heap.size, 3, none⟩ = some (.int .i64 2) ∧ (wb.alloc (.cells #[.string l0, .string l1, .string ⟨#[99]⟩] 9)).cell? ⟨w.heap.size, 4, none⟩ = some (.int .i64 0) ∧ (wb.alloc (.cells #[.string l0, .string l1, .string ⟨#[99]⟩] 9)).cell? ⟨w.heap.size, 5, none⟩ = some (.bool false) ∧ (wb.alloc (.cells #[.string l0, .string l1, .string ⟨#[99]⟩] 9)).cell? ⟨w.heap.size + 1, 0, none⟩ = some (.int .i64 2) ∧ (wb.alloc (.cells #[.string l0, .string l1, .string ⟨#[99]⟩] 9)).cell? ⟨w.heap.size + 1, 1, none⟩ = some (.int .i64 0) ∧ (wb.alloc (.cells #[.string l0, .string l1, .string ⟨#[99]⟩] 9)).cell? ⟨w.heap.size + 1, 2, none⟩ = some (.int .i64 0) ∧ (wb.alloc (.cells #[.string l0, .string l1, .string ⟨#[99]⟩] 9)).cell? ⟨w.heap.size + 1, 3, none⟩ = some (.int .i64 2) ∧ (wb.alloc (.cells #[.string l0, .string l1, .string ⟨#[99]⟩] 9)).cell? ⟨w.heap.size + 1, 4, none⟩ = some (.int .i64 0) ∧ (wb.alloc (.cells #[.string l0, .string l1, .string ⟨#[99]⟩] 9)).cell? ⟨w.heap.size + 1, 5, none⟩ = some (.bool false) ∧ Trk w2 (wb.alloc (.cells #[.string l0, .string l1, .string ⟨#[99]⟩] 9)) := by assumption
  obtain ⟨x0, x1, x2, x3, x4, x5, y0, y1, y2, y3, y4, y5, tr⟩ := H3
  have hL : StrsAt (wb.alloc (.cells #[.string l0, .string l1, .string ⟨#[99]⟩] 9)) (some ⟨wb.heap.size, 0, none⟩) wb.heap.size 0 [l0, l1, cB] := ⟨fun _ => ⟨rfl, by simp⟩, fun i s hs => by
    match i, hs with
    | 0, hs => cases hs; exact new0 rfl rfl
    | 1, hs => cases hs; exact new0 rfl rfl
    | 2, hs => cases hs; exact new0 rfl rfl⟩
  have H0 := Lib.hid (Hd0.mk (w0 := w2) (n1 := w.heap.size) (n2 := w.heap.size + 1) (g := wb.heap.size) (l0 := l0) (l1 := l1) tr (by intro j v hj; match j, hj with | 0, hj => cases hj; exact x0 | 1, hj => cases hj; exact x1 | 2, hj => cases hj; exact x2 | 3, hj => cases hj; exact x3 | 4, hj => cases hj; exact x4 | 5, hj => cases hj; exact x5) (by intro j v hj; match j, hj with | 0, hj => cases hj; exact y0 | 1, hj => cases hj; exact y1 | 2, hj => cases hj; exact y2 | 3, hj => cases hj; exact y3 | 4, hj => cases hj; exact y4 | 5, hj => cases hj; exact y5) hL (Nat.lt_of_lt_of_le hl1 tr.bel.size) (Nat.lt_of_lt_of_le hl2 tr.bel.size))
  clear x0 x1 x2 x3 x4 x5 y0 y1 y2 y3 y4 y5 tr hL HINI FX FY
  generalize wb.alloc (.cells #[.string l0, .string l1, .string ⟨#[99]⟩] 9) = w3 at *
  generalize wb.heap.size = g at *
  go_wp2_with fail
  refine (FR.out _ _ _ () H0.out.l H0.out.trk.tabs).mono ?_
  rintro e w4 ⟨rfl, hb⟩
  replace H0 := Lib.hid (H0.out.step hb)
  clear hb
  go_wp2_with fail
  refine (FP1.out _ _ () () H0.out.l H0.out.trk.tabs).mono ?_
  rintro e w5 ⟨pa, pc, pb, po, rfl, hP, hb⟩
  replace H0 := Lib.hid (H0.out.step hb)
  have HP := Lib.hid hP
  clear hb hP
  go_wp2_with fail
  refine (FP2.out _ _ () () H0.out.l H0.out.trk.tabs).mono ?_
  rintro e w6 ⟨qa, qc, qb, qo, rfl, hQ, hb⟩
  replace H0 := Lib.hid (H0.out.step hb)
  replace HP := Lib.hid (HP.out.step hb)
  have HQ := Lib.hid hQ
  clear hb hQ
  go_wp2_with fail
  refine (FP3.out _ _).mono ?_
  rintro e w7 ⟨rfl, hb⟩
  replace H0 := Lib.hid (H0.out.step hb)
  replace HP := Lib.hid (HP.out.step hb)
  replace HQ := Lib.hid (HQ.out.step hb)
  clear hb
  have H7 := Lib.hid (Hd1.mk (H0.out.rebase) HP.out HQ.out)
  have c0 := H0.out.l.at_ 0 l0 rfl
  have c1 := H0.out.l.at_ 1 l1 rfl
  rw [Nat.zero_add] at c0 c1
  have BE := Lib.hid H0.out.trk.bel
  have HIN2 := Lib.hid (And.intro c0 (And.intro c1 H7.out))
  have hg := (H0.out.l.ao (by simp)).2
  clear c0 c1 H0 HP HQ
  go_wp2_with fail
  go_region_held_law (fun w' => w'.cell? ⟨g, 0, none⟩ = some (.string l0) ∧ w'.cell? ⟨g, 1, none⟩ = some (.string l1) ∧ Hd1 w7 w' w.heap.size (w.heap.size + 1) g l0 l1 n01 pa pb po qa qb qo) (first | (with_reducible assumption) | (with_reducible exact HIN2.out) | (with_reducible refine keep_hd hba ?_; with_reducible assumption) | (with_reducible refine keep_hd hbb ?_; with_reducible assumption) | (with_reducible refine keep_hd hbc ?_; with_reducible assumption) | (with_reducible refine keep_hd hbd ?_; with_reducible assumption) | (refine keep_hd (drewN_below _ 1) ?_; first | (with_reducible assumption) | (with_reducible exact HIN2.out)) | (refine keep_hd (alloc_below _ _) ?_; first | (with_reducible assumption) | (with_reducible exact HIN2.out)) | (refine keep_hd (alloc_drew_below _ _) ?_; first | (with_reducible assumption) | (with_reducible exact HIN2.out))) (first | (go_at_call_of 26 (Value.slice pa 2 pc); refine (Strings_yes [l0, cB] _ _ pb po _ ?mb2 ?mo2 _ _ (by simp) ?SP2 ?SN2).mono ?_; (case SN2 => first | exact strs_two _ l0 cB _ | exact (strs_two _ l0 cB _).step (drewN_below _ 1) | exact (strs_two _ l0 cB _).step hbc | exact ((strs_two _ l0 cB _).step (drewN_below _ 1)).step hbc); (case SP2 => first | exact hd_p (by assumption) | exact H7.out.p | exact (H7.out.step (alloc_below _ _)).p | exact (H7.out.step (alloc_drew_below _ _)).p); rintro e wa ⟨rfl, hba⟩) | (go_at_call_of 26 (Value.slice qa 1 qc); refine (Strings_yes [n01] _ _ qb qo _ ?mb1 ?mo1 _ _ (by simp) ?SP1 ?SN1).mono ?_; (case SN1 => first | exact strs_one _ n01 _ | exact (strs_one _ n01 _).step (drewN_below _ 1) | exact (strs_one _ n01 _).step hbc | exact ((strs_one _ n01 _).step (drewN_below _ 1)).step hbc); (case SP1 => first | exact hd_q (by assumption) | exact H7.out.q | exact (H7.out.step (alloc_below _ _)).q | exact (H7.out.step (alloc_drew_below _ _)).q); rintro e wa ⟨rfl, hbb⟩) | (go_at_call_of 34 (Value.string n01); with_reducible refine (FN2.out _ ?TT).mono ?_; (case TT => exact (by first | exact hd_t (by assumption) | exact hd_t HIN2.out | exact hd_t (keep_hd (drewN_below _ 1) HIN2.out))); rintro e wa ⟨rfl, hbd⟩) | (go_at_call_of 34 (Value.string l0); with_reducible refine (FN1.out _ ?TT).mono ?_; (case TT => exact (by first | exact hd_t (by assumption) | exact hd_t HIN2.out | exact hd_t (keep_hd (drewN_below _ 1) HIN2.out))); rintro e wa ⟨rfl, hbc⟩))
  have H8 := Lib.hid (hd_h (w0 := w7) (n1 := w.heap.size) (n2 := w.heap.size + 1) (g := g) (l0 := l0) (l1 := l1) (n01 := n01) (pa := pa) (pb := pb) (po := po) (qa := qa) (qb := qb) (qo := qo) (by assumption))
  have y0 := H8.out.h.ys 0 _ rfl
  have y1 := H8.out.h.ys 1 _ rfl
  have y2 := H8.out.h.ys 2 _ rfl
  have y3 := H8.out.h.ys 3 _ rfl
  have y4 := H8.out.h.ys 4 _ rfl
  have y5 := H8.out.h.ys 5 _ rfl
  go_wp2_with fail
  refine (FC1.out _ _ _ _ _ H8.out.p H8.out.h.trk.tabs).mono ?_
  rintro e w9 ⟨rfl, hb⟩
  replace H8 := Lib.hid (H8.out.step hb)
  clear hb y0 y1 y2 y3 y4 y5
  have y0 := H8.out.h.ys 0 _ rfl
  have y1 := H8.out.h.ys 1 _ rfl
  have y2 := H8.out.h.ys 2 _ rfl
  have y3 := H8.out.h.ys 3 _ rfl
  have y4 := H8.out.h.ys 4 _ rfl
  have y5 := H8.out.h.ys 5 _ rfl
  go_wp2_with fail
  refine (FC2.out _ _ _ _ _ H8.out.p H8.out.h.trk.tabs).mono ?_
  rintro e w10 ⟨rfl, hb⟩
  replace H8 := Lib.hid (H8.out.step hb)
  clear hb y0 y1 y2 y3 y4 y5
  have x0 := H8.out.h.xs 0 _ rfl
  have x1 := H8.out.h.xs 1 _ rfl
  have x2 := H8.out.h.xs 2 _ rfl
  have x3 := H8.out.h.xs 3 _ rfl
  have x4 := H8.out.h.xs 4 _ rfl
  have x5 := H8.out.h.xs 5 _ rfl
  go_wp2_with fail
  refine (FC3.out _ _ _ _ _ H8.out.p H8.out.h.trk.tabs).mono ?_
  rintro e w11 ⟨rfl, hb⟩
  replace H8 := Lib.hid (H8.out.step hb)
  clear hb x0 x1 x2 x3 x4 x5
  have y0 := H8.out.h.ys 0 _ rfl
  have y1 := H8.out.h.ys 1 _ rfl
  have y2 := H8.out.h.ys 2 _ rfl
  have y3 := H8.out.h.ys 3 _ rfl
  have y4 := H8.out.h.ys 4 _ rfl
  have y5 := H8.out.h.ys 5 _ rfl
  go_wp2_with fail
  refine (FC4.out _ _ _ _ _ H8.out.p H8.out.h.trk.tabs).mono ?_
  rintro e w12 ⟨rfl, hb⟩
  replace H8 := Lib.hid (H8.out.step hb)
  clear hb y0 y1 y2 y3 y4 y5
  go_wp2_with fail
  refine (FZ1.out _ H8.out.h.trk.tabs).mono ?_
  rintro e w13 ⟨rfl, hb⟩
  replace H8 := Lib.hid (H8.out.step hb)
  clear hb
  go_wp2_with fail
  refine (FZ2.out _ H8.out.h.trk.tabs).mono ?_
  rintro e w14 ⟨rfl, hb⟩
  replace H8 := Lib.hid (H8.out.step hb)
  clear hb
  go_wp2_with fail
  go_ret
  exact ⟨by first | rfl | simp, HBW.out.trans ((BE.out.trans (H8.out.h.trk.bel.mono BE.out.size)).mono HBW.out.size)⟩
end Go.Proofs.YtpdbcahiipbhnaaDoor
