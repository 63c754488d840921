/- ChainTexts: the walk and the law. -/
import Derived.Test.YtpdbcahiipbhnaaDoorMP
import Derived.Outline
namespace Go.Proofs.YtpdbcahiipbhnaaDoor
open Go.RowKit

theorem ents2_new (w : World) (a b : Ent) (t : TypeId) : EntsAt (w.alloc (.cells #[.int .i64 a.house, .int .i64 a.seq, .int .i64 a.day, .string a.prev, .string a.body, .int .i64 a.r, .int .i64 a.s, .int .i64 b.house, .int .i64 b.seq, .int .i64 b.day, .string b.prev, .string b.body, .int .i64 b.r, .int .i64 b.s] t)) (some ⟨w.heap.size, 0, none⟩) w.heap.size 0 [a, b] :=
  EntsAt.of_cells (fun _ => by simp) (fun j u hj => rangeAt_new w _ t j u hj)
theorem keep_ct {w0 w w' : World} {n0 n1 n2 n3 : Nat} {a b : Ent} (l0 : n0 < w0.heap.size) (l1 : n1 < w0.heap.size) (l2 : n2 < w0.heap.size) (l3 : n3 < w0.heap.size) (hb : Below w.heap.size w w') (H : w.cell? ⟨n0, 0, none⟩ = some (.int .i64 a.house) ∧ w.cell? ⟨n0, 1, none⟩ = some (.int .i64 a.seq) ∧ w.cell? ⟨n0, 2, none⟩ = some (.int .i64 a.day) ∧ w.cell? ⟨n0, 3, none⟩ = some (.string a.prev) ∧ w.cell? ⟨n0, 4, none⟩ = some (.string a.body) ∧ w.cell? ⟨n0, 5, none⟩ = some (.int .i64 a.r) ∧ w.cell? ⟨n0, 6, none⟩ = some (.int .i64 a.s) ∧ w.cell? ⟨n1, 0, none⟩ = some (.int .i64 b.house) ∧ w.cell? ⟨n1, 1, none⟩ = some (.int .i64 b.seq) ∧ w.cell? ⟨n1, 2, none⟩ = some (.int .i64 b.day) ∧ w.cell? ⟨n1, 3, none⟩ = some (.string b.prev) ∧ w.cell? ⟨n1, 4, none⟩ = some (.string b.body) ∧ w.cell? ⟨n1, 5, none⟩ = some (.int .i64 b.r) ∧ w.cell? ⟨n1, 6, none⟩ = some (.int .i64 b.s) ∧ w.cell? ⟨n2, 0, none⟩ = some (.int .i64 a.house) ∧ w.cell? ⟨n2, 1, none⟩ = some (.int .i64 a.seq) ∧ w.cell? ⟨n2, 2, none⟩ = some (.int .i64 a.day) ∧ w.cell? ⟨n2, 3, none⟩ = some (.string a.prev) ∧ w.cell? ⟨n2, 4, none⟩ = some (.string a.body) ∧ w.cell? ⟨n2, 5, none⟩ = some (.int .i64 0) ∧ w.cell? ⟨n2, 6, none⟩ = some (.int .i64 0) ∧ w.cell? ⟨n3, 0, none⟩ = some (.int .i64 b.house) ∧ w.cell? ⟨n3, 1, none⟩ = some (.int .i64 b.seq) ∧ w.cell? ⟨n3, 2, none⟩ = some (.int .i64 b.day) ∧ w.cell? ⟨n3, 3, none⟩ = some (.string b.prev) ∧ w.cell? ⟨n3, 4, none⟩ = some (.string b.body) ∧ w.cell? ⟨n3, 5, none⟩ = some (.int .i64 0) ∧ w.cell? ⟨n3, 6, none⟩ = some (.int .i64 0) ∧ Trk w0 w) : w'.cell? ⟨n0, 0, none⟩ = some (.int .i64 a.house) ∧ w'.cell? ⟨n0, 1, none⟩ = some (.int .i64 a.seq) ∧ w'.cell? ⟨n0, 2, none⟩ = some (.int .i64 a.day) ∧ w'.cell? ⟨n0, 3, none⟩ = some (.string a.prev) ∧ w'.cell? ⟨n0, 4, none⟩ = some (.string a.body) ∧ w'.cell? ⟨n0, 5, none⟩ = some (.int .i64 a.r) ∧ w'.cell? ⟨n0, 6, none⟩ = some (.int .i64 a.s) ∧ w'.cell? ⟨n1, 0, none⟩ = some (.int .i64 b.house) ∧ w'.cell? ⟨n1, 1, none⟩ = some (.int .i64 b.seq) ∧ w'.cell? ⟨n1, 2, none⟩ = some (.int .i64 b.day) ∧ w'.cell? ⟨n1, 3, none⟩ = some (.string b.prev) ∧ w'.cell? ⟨n1, 4, none⟩ = some (.string b.body) ∧ w'.cell? ⟨n1, 5, none⟩ = some (.int .i64 b.r) ∧ w'.cell? ⟨n1, 6, none⟩ = some (.int .i64 b.s) ∧ w'.cell? ⟨n2, 0, none⟩ = some (.int .i64 a.house) ∧ w'.cell? ⟨n2, 1, none⟩ = some (.int .i64 a.seq) ∧ w'.cell? ⟨n2, 2, none⟩ = some (.int .i64 a.day) ∧ w'.cell? ⟨n2, 3, none⟩ = some (.string a.prev) ∧ w'.cell? ⟨n2, 4, none⟩ = some (.string a.body) ∧ w'.cell? ⟨n2, 5, none⟩ = some (.int .i64 0) ∧ w'.cell? ⟨n2, 6, none⟩ = some (.int .i64 0) ∧ w'.cell? ⟨n3, 0, none⟩ = some (.int .i64 b.house) ∧ w'.cell? ⟨n3, 1, none⟩ = some (.int .i64 b.seq) ∧ w'.cell? ⟨n3, 2, none⟩ = some (.int .i64 b.day) ∧ w'.cell? ⟨n3, 3, none⟩ = some (.string b.prev) ∧ w'.cell? ⟨n3, 4, none⟩ = some (.string b.body) ∧ w'.cell? ⟨n3, 5, none⟩ = some (.int .i64 0) ∧ w'.cell? ⟨n3, 6, none⟩ = some (.int .i64 0) ∧ Trk w0 w' :=
  ⟨(hb.cell (p := ⟨n0, 0, none⟩) (Nat.lt_of_lt_of_le l0 H.2.2.2.2.2.2.2.2.2.2.2.2.2.2.2.2.2.2.2.2.2.2.2.2.2.2.2.2.bel.size)).trans H.1, (hb.cell (p := ⟨n0, 1, none⟩) (Nat.lt_of_lt_of_le l0 H.2.2.2.2.2.2.2.2.2.2.2.2.2.2.2.2.2.2.2.2.2.2.2.2.2.2.2.2.bel.size)).trans H.2.1, (hb.cell (p := ⟨n0, 2, none⟩) (Nat.lt_of_lt_of_le l0 H.2.2.2.2.2.2.2.2.2.2.2.2.2.2.2.2.2.2.2.2.2.2.2.2.2.2.2.2.bel.size)).trans H.2.2.1, (hb.cell (p := ⟨n0, 3, none⟩) (Nat.lt_of_lt_of_le l0 H.2.2.2.2.2.2.2.2.2.2.2.2.2.2.2.2.2.2.2.2.2.2.2.2.2.2.2.2.bel.size)).trans H.2.2.2.1, (hb.cell (p := ⟨n0, 4, none⟩) (Nat.lt_of_lt_of_le l0 H.2.2.2.2.2.2.2.2.2.2.2.2.2.2.2.2.2.2.2.2.2.2.2.2.2.2.2.2.bel.size)).trans H.2.2.2.2.1, (hb.cell (p := ⟨n0, 5, none⟩) (Nat.lt_of_lt_of_le l0 H.2.2.2.2.2.2.2.2.2.2.2.2.2.2.2.2.2.2.2.2.2.2.2.2.2.2.2.2.bel.size)).trans H.2.2.2.2.2.1, (hb.cell (p := ⟨n0, 6, none⟩) (Nat.lt_of_lt_of_le l0 H.2.2.2.2.2.2.2.2.2.2.2.2.2.2.2.2.2.2.2.2.2.2.2.2.2.2.2.2.bel.size)).trans H.2.2.2.2.2.2.1, (hb.cell (p := ⟨n1, 0, none⟩) (Nat.lt_of_lt_of_le l1 H.2.2.2.2.2.2.2.2.2.2.2.2.2.2.2.2.2.2.2.2.2.2.2.2.2.2.2.2.bel.size)).trans H.2.2.2.2.2.2.2.1, (hb.cell (p := ⟨n1, 1, none⟩) (Nat.lt_of_lt_of_le l1 H.2.2.2.2.2.2.2.2.2.2.2.2.2.2.2.2.2.2.2.2.2.2.2.2.2.2.2.2.bel.size)).trans H.2.2.2.2.2.2.2.2.1, (hb.cell (p := ⟨n1, 2, none⟩) (Nat.lt_of_lt_of_le l1 H.2.2.2.2.2.2.2.2.2.2.2.2.2.2.2.2.2.2.2.2.2.2.2.2.2.2.2.2.bel.size)).trans H.2.2.2.2.2.2.2.2.2.1, (hb.cell (p := ⟨n1, 3, none⟩) (Nat.lt_of_lt_of_le l1 H.2.2.2.2.2.2.2.2.2.2.2.2.2.2.2.2.2.2.2.2.2.2.2.2.2.2.2.2.bel.size)).trans H.2.2.2.2.2.2.2.2.2.2.1, (hb.cell (p := ⟨n1, 4, none⟩) (Nat.lt_of_lt_of_le l1 H.2.2.2.2.2.2.2.2.2.2.2.2.2.2.2.2.2.2.2.2.2.2.2.2.2.2.2.2.bel.size)).trans H.2.2.2.2.2.2.2.2.2.2.2.1, (hb.cell (p := ⟨n1, 5, none⟩) (Nat.lt_of_lt_of_le l1 H.2.2.2.2.2.2.2.2.2.2.2.2.2.2.2.2.2.2.2.2.2.2.2.2.2.2.2.2.bel.size)).trans H.2.2.2.2.2.2.2.2.2.2.2.2.1, (hb.cell (p := ⟨n1, 6, none⟩) (Nat.lt_of_lt_of_le l1 H.2.2.2.2.2.2.2.2.2.2.2.2.2.2.2.2.2.2.2.2.2.2.2.2.2.2.2.2.bel.size)).trans H.2.2.2.2.2.2.2.2.2.2.2.2.2.1, (hb.cell (p := ⟨n2, 0, none⟩) (Nat.lt_of_lt_of_le l2 H.2.2.2.2.2.2.2.2.2.2.2.2.2.2.2.2.2.2.2.2.2.2.2.2.2.2.2.2.bel.size)).trans H.2.2.2.2.2.2.2.2.2.2.2.2.2.2.1, (hb.cell (p := ⟨n2, 1, none⟩) (Nat.lt_of_lt_of_le l2 H.2.2.2.2.2.2.2.2.2.2.2.2.2.2.2.2.2.2.2.2.2.2.2.2.2.2.2.2.bel.size)).trans H.2.2.2.2.2.2.2.2.2.2.2.2.2.2.2.1, (hb.cell (p := ⟨n2, 2, none⟩) (Nat.lt_of_lt_of_le l2 H.2.2.2.2.2.2.2.2.2.2.2.2.2.2.2.2.2.2.2.2.2.2.2.2.2.2.2.2.bel.size)).trans H.2.2.2.2.2.2.2.2.2.2.2.2.2.2.2.2.1, (hb.cell (p := ⟨n2, 3, none⟩) (Nat.lt_of_lt_of_le l2 H.2.2.2.2.2.2.2.2.2.2.2.2.2.2.2.2.2.2.2.2.2.2.2.2.2.2.2.2.bel.size)).trans H.2.2.2.2.2.2.2.2.2.2.2.2.2.2.2.2.2.1, (hb.cell (p := ⟨n2, 4, none⟩) (Nat.lt_of_lt_of_le l2 H.2.2.2.2.2.2.2.2.2.2.2.2.2.2.2.2.2.2.2.2.2.2.2.2.2.2.2.2.bel.size)).trans H.2.2.2.2.2.2.2.2.2.2.2.2.2.2.2.2.2.2.1, (hb.cell (p := ⟨n2, 5, none⟩) (Nat.lt_of_lt_of_le l2 H.2.2.2.2.2.2.2.2.2.2.2.2.2.2.2.2.2.2.2.2.2.2.2.2.2.2.2.2.bel.size)).trans H.2.2.2.2.2.2.2.2.2.2.2.2.2.2.2.2.2.2.2.1, (hb.cell (p := ⟨n2, 6, none⟩) (Nat.lt_of_lt_of_le l2 H.2.2.2.2.2.2.2.2.2.2.2.2.2.2.2.2.2.2.2.2.2.2.2.2.2.2.2.2.bel.size)).trans H.2.2.2.2.2.2.2.2.2.2.2.2.2.2.2.2.2.2.2.2.1, (hb.cell (p := ⟨n3, 0, none⟩) (Nat.lt_of_lt_of_le l3 H.2.2.2.2.2.2.2.2.2.2.2.2.2.2.2.2.2.2.2.2.2.2.2.2.2.2.2.2.bel.size)).trans H.2.2.2.2.2.2.2.2.2.2.2.2.2.2.2.2.2.2.2.2.2.1, (hb.cell (p := ⟨n3, 1, none⟩) (Nat.lt_of_lt_of_le l3 H.2.2.2.2.2.2.2.2.2.2.2.2.2.2.2.2.2.2.2.2.2.2.2.2.2.2.2.2.bel.size)).trans H.2.2.2.2.2.2.2.2.2.2.2.2.2.2.2.2.2.2.2.2.2.2.1, (hb.cell (p := ⟨n3, 2, none⟩) (Nat.lt_of_lt_of_le l3 H.2.2.2.2.2.2.2.2.2.2.2.2.2.2.2.2.2.2.2.2.2.2.2.2.2.2.2.2.bel.size)).trans H.2.2.2.2.2.2.2.2.2.2.2.2.2.2.2.2.2.2.2.2.2.2.2.1, (hb.cell (p := ⟨n3, 3, none⟩) (Nat.lt_of_lt_of_le l3 H.2.2.2.2.2.2.2.2.2.2.2.2.2.2.2.2.2.2.2.2.2.2.2.2.2.2.2.2.bel.size)).trans H.2.2.2.2.2.2.2.2.2.2.2.2.2.2.2.2.2.2.2.2.2.2.2.2.1, (hb.cell (p := ⟨n3, 4, none⟩) (Nat.lt_of_lt_of_le l3 H.2.2.2.2.2.2.2.2.2.2.2.2.2.2.2.2.2.2.2.2.2.2.2.2.2.2.2.2.bel.size)).trans H.2.2.2.2.2.2.2.2.2.2.2.2.2.2.2.2.2.2.2.2.2.2.2.2.2.1, (hb.cell (p := ⟨n3, 5, none⟩) (Nat.lt_of_lt_of_le l3 H.2.2.2.2.2.2.2.2.2.2.2.2.2.2.2.2.2.2.2.2.2.2.2.2.2.2.2.2.bel.size)).trans H.2.2.2.2.2.2.2.2.2.2.2.2.2.2.2.2.2.2.2.2.2.2.2.2.2.2.1, (hb.cell (p := ⟨n3, 6, none⟩) (Nat.lt_of_lt_of_le l3 H.2.2.2.2.2.2.2.2.2.2.2.2.2.2.2.2.2.2.2.2.2.2.2.2.2.2.2.2.bel.size)).trans H.2.2.2.2.2.2.2.2.2.2.2.2.2.2.2.2.2.2.2.2.2.2.2.2.2.2.2.1, H.2.2.2.2.2.2.2.2.2.2.2.2.2.2.2.2.2.2.2.2.2.2.2.2.2.2.2.2.step hb⟩
theorem held_ct {w0 w : World} {n0 n1 n2 n3 : Nat} {a b : Ent} (H : w.cell? ⟨n0, 0, none⟩ = some (.int .i64 a.house) ∧ w.cell? ⟨n0, 1, none⟩ = some (.int .i64 a.seq) ∧ w.cell? ⟨n0, 2, none⟩ = some (.int .i64 a.day) ∧ w.cell? ⟨n0, 3, none⟩ = some (.string a.prev) ∧ w.cell? ⟨n0, 4, none⟩ = some (.string a.body) ∧ w.cell? ⟨n0, 5, none⟩ = some (.int .i64 a.r) ∧ w.cell? ⟨n0, 6, none⟩ = some (.int .i64 a.s) ∧ w.cell? ⟨n1, 0, none⟩ = some (.int .i64 b.house) ∧ w.cell? ⟨n1, 1, none⟩ = some (.int .i64 b.seq) ∧ w.cell? ⟨n1, 2, none⟩ = some (.int .i64 b.day) ∧ w.cell? ⟨n1, 3, none⟩ = some (.string b.prev) ∧ w.cell? ⟨n1, 4, none⟩ = some (.string b.body) ∧ w.cell? ⟨n1, 5, none⟩ = some (.int .i64 b.r) ∧ w.cell? ⟨n1, 6, none⟩ = some (.int .i64 b.s) ∧ w.cell? ⟨n2, 0, none⟩ = some (.int .i64 a.house) ∧ w.cell? ⟨n2, 1, none⟩ = some (.int .i64 a.seq) ∧ w.cell? ⟨n2, 2, none⟩ = some (.int .i64 a.day) ∧ w.cell? ⟨n2, 3, none⟩ = some (.string a.prev) ∧ w.cell? ⟨n2, 4, none⟩ = some (.string a.body) ∧ w.cell? ⟨n2, 5, none⟩ = some (.int .i64 0) ∧ w.cell? ⟨n2, 6, none⟩ = some (.int .i64 0) ∧ w.cell? ⟨n3, 0, none⟩ = some (.int .i64 b.house) ∧ w.cell? ⟨n3, 1, none⟩ = some (.int .i64 b.seq) ∧ w.cell? ⟨n3, 2, none⟩ = some (.int .i64 b.day) ∧ w.cell? ⟨n3, 3, none⟩ = some (.string b.prev) ∧ w.cell? ⟨n3, 4, none⟩ = some (.string b.body) ∧ w.cell? ⟨n3, 5, none⟩ = some (.int .i64 0) ∧ w.cell? ⟨n3, 6, none⟩ = some (.int .i64 0) ∧ Trk w0 w) : Trk w0 w := H.2.2.2.2.2.2.2.2.2.2.2.2.2.2.2.2.2.2.2.2.2.2.2.2.2.2.2.2
theorem ini_ct {w0 w : World} {n0 n1 n2 n3 : Nat} {a b : Ent} (h0 : w.cell? ⟨n0, 0, none⟩ = some (.int .i64 a.house)) (h1 : w.cell? ⟨n0, 1, none⟩ = some (.int .i64 a.seq)) (h2 : w.cell? ⟨n0, 2, none⟩ = some (.int .i64 a.day)) (h3 : w.cell? ⟨n0, 3, none⟩ = some (.string a.prev)) (h4 : w.cell? ⟨n0, 4, none⟩ = some (.string a.body)) (h5 : w.cell? ⟨n0, 5, none⟩ = some (.int .i64 a.r)) (h6 : w.cell? ⟨n0, 6, none⟩ = some (.int .i64 a.s)) (h7 : w.cell? ⟨n1, 0, none⟩ = some (.int .i64 b.house)) (h8 : w.cell? ⟨n1, 1, none⟩ = some (.int .i64 b.seq)) (h9 : w.cell? ⟨n1, 2, none⟩ = some (.int .i64 b.day)) (h10 : w.cell? ⟨n1, 3, none⟩ = some (.string b.prev)) (h11 : w.cell? ⟨n1, 4, none⟩ = some (.string b.body)) (h12 : w.cell? ⟨n1, 5, none⟩ = some (.int .i64 b.r)) (h13 : w.cell? ⟨n1, 6, none⟩ = some (.int .i64 b.s)) (h14 : w.cell? ⟨n2, 0, none⟩ = some (.int .i64 a.house)) (h15 : w.cell? ⟨n2, 1, none⟩ = some (.int .i64 a.seq)) (h16 : w.cell? ⟨n2, 2, none⟩ = some (.int .i64 a.day)) (h17 : w.cell? ⟨n2, 3, none⟩ = some (.string a.prev)) (h18 : w.cell? ⟨n2, 4, none⟩ = some (.string a.body)) (h19 : w.cell? ⟨n2, 5, none⟩ = some (.int .i64 0)) (h20 : w.cell? ⟨n2, 6, none⟩ = some (.int .i64 0)) (h21 : w.cell? ⟨n3, 0, none⟩ = some (.int .i64 b.house)) (h22 : w.cell? ⟨n3, 1, none⟩ = some (.int .i64 b.seq)) (h23 : w.cell? ⟨n3, 2, none⟩ = some (.int .i64 b.day)) (h24 : w.cell? ⟨n3, 3, none⟩ = some (.string b.prev)) (h25 : w.cell? ⟨n3, 4, none⟩ = some (.string b.body)) (h26 : w.cell? ⟨n3, 5, none⟩ = some (.int .i64 0)) (h27 : w.cell? ⟨n3, 6, none⟩ = some (.int .i64 0)) (ht : Trk w0 w) : w.cell? ⟨n0, 0, none⟩ = some (.int .i64 a.house) ∧ w.cell? ⟨n0, 1, none⟩ = some (.int .i64 a.seq) ∧ w.cell? ⟨n0, 2, none⟩ = some (.int .i64 a.day) ∧ w.cell? ⟨n0, 3, none⟩ = some (.string a.prev) ∧ w.cell? ⟨n0, 4, none⟩ = some (.string a.body) ∧ w.cell? ⟨n0, 5, none⟩ = some (.int .i64 a.r) ∧ w.cell? ⟨n0, 6, none⟩ = some (.int .i64 a.s) ∧ w.cell? ⟨n1, 0, none⟩ = some (.int .i64 b.house) ∧ w.cell? ⟨n1, 1, none⟩ = some (.int .i64 b.seq) ∧ w.cell? ⟨n1, 2, none⟩ = some (.int .i64 b.day) ∧ w.cell? ⟨n1, 3, none⟩ = some (.string b.prev) ∧ w.cell? ⟨n1, 4, none⟩ = some (.string b.body) ∧ w.cell? ⟨n1, 5, none⟩ = some (.int .i64 b.r) ∧ w.cell? ⟨n1, 6, none⟩ = some (.int .i64 b.s) ∧ w.cell? ⟨n2, 0, none⟩ = some (.int .i64 a.house) ∧ w.cell? ⟨n2, 1, none⟩ = some (.int .i64 a.seq) ∧ w.cell? ⟨n2, 2, none⟩ = some (.int .i64 a.day) ∧ w.cell? ⟨n2, 3, none⟩ = some (.string a.prev) ∧ w.cell? ⟨n2, 4, none⟩ = some (.string a.body) ∧ w.cell? ⟨n2, 5, none⟩ = some (.int .i64 0) ∧ w.cell? ⟨n2, 6, none⟩ = some (.int .i64 0) ∧ w.cell? ⟨n3, 0, none⟩ = some (.int .i64 b.house) ∧ w.cell? ⟨n3, 1, none⟩ = some (.int .i64 b.seq) ∧ w.cell? ⟨n3, 2, none⟩ = some (.int .i64 b.day) ∧ w.cell? ⟨n3, 3, none⟩ = some (.string b.prev) ∧ w.cell? ⟨n3, 4, none⟩ = some (.string b.body) ∧ w.cell? ⟨n3, 5, none⟩ = some (.int .i64 0) ∧ w.cell? ⟨n3, 6, none⟩ = some (.int .i64 0) ∧ Trk w0 w :=
  ⟨h0, h1, h2, h3, h4, h5, h6, h7, h8, h9, h10, h11, h12, h13, h14, h15, h16, h17, h18, h19, h20, h21, h22, h23, h24, h25, h26, h27, ht⟩

set_option maxHeartbeats 4000000 in
set_option maxRecDepth 100000 in
theorem texts_few (a b : Ent) (w : World) (ht : Tabs w) (hf : fewE [a, b] 2 = false) :
    Calls Tryd.prog 16 #[.agg #[.int .i64 a.house, .int .i64 a.seq, .int .i64 a.day, .string a.prev, .string a.body, .int .i64 a.r, .int .i64 a.s], .agg #[.int .i64 b.house, .int .i64 b.seq, .int .i64 b.day, .string b.prev, .string b.body, .int .i64 b.r, .int .i64 b.s]] w fun e w' => e = .returned (.bool true) ∧ Below w.heap.size w w' := by
  obtain ⟨m1, m2, T, Z⟩ := two_boxes w a b ht
  have HM1 := Lib.hid m1
  have HM2 := Lib.hid m2
  have HT := Lib.hid T
  have HZ := Lib.hid Z
  have HF := Lib.hid hf
  clear m1 m2 T Z ht hf
  go_enter Tryd.func16, Tryd.ntmps16
  go_wp2_with fail
  refine (head31 _ HT.out.tabs).mono ?_
  rintro e v1 ⟨rfl, hb⟩
  have T1 := Lib.hid (HT.out.step hb)
  have M1 := Lib.hid (keep7 (by rw [HZ.out]; omega) hb HM1.out)
  have M2 := Lib.hid (keep7 (by rw [HZ.out]; omega) hb HM2.out)
  clear hb HM1 HM2 HT HZ
  obtain ⟨a0, a1, a2, a3, a4, a5, a6⟩ := M1.out
  obtain ⟨b0, b1, b2, b3, b4, b5, b6⟩ := M2.out
  have hx := fun w h => Few_any [a, b] (some ⟨v1.heap.size, 0, none⟩) v1.heap.size 0 2 2 w (by show 2 ≤ 9223372036854775807; decide) h
  rw [HF.out] at hx
  have HX := Lib.hid hx
  have HA := Lib.hid (ents2_new v1 a b 63)
  have T2 := Lib.hid (T1.out.alloc (.cells #[.int .i64 a.house, .int .i64 a.seq, .int .i64 a.day, .string a.prev, .string a.body, .int .i64 a.r, .int .i64 a.s, .int .i64 b.house, .int .i64 b.seq, .int .i64 b.day, .string b.prev, .string b.body, .int .i64 b.r, .int .i64 b.s] 63))
  clear hx
  go_wp2_with fail
  refine (HX.out _ HA.out).mono ?_
  rintro e wx ⟨rfl, rfl⟩
  go_wp2_with fail
  go_ret
  exact ⟨rfl, T2.out.bel⟩
set_option maxHeartbeats 4000000 in
set_option maxRecDepth 100000 in
theorem texts_main (a b : Ent) (v : Bool) (ta tb : ByteArray) (w : World) (ht : Tabs w) (hf : fewE [a, b] 2 = true) (hta : ∀ w, Tabs w → Calls Tryd.prog 43 #[.agg #[.int .i64 a.house, .int .i64 a.seq, .int .i64 a.day, .string a.prev, .string a.body, .int .i64 a.r, .int .i64 a.s]] w fun e w' => e = .returned (.string ta) ∧ Below w.heap.size w w') (htb : ∀ w, Tabs w → Calls Tryd.prog 43 #[.agg #[.int .i64 b.house, .int .i64 b.seq, .int .i64 b.day, .string b.prev, .string b.body, .int .i64 b.r, .int .i64 b.s]] w fun e w' => e = .returned (.string tb) ∧ Below w.heap.size w w') (h1 : (ta.toList == tb.toList) = v) (h2 : eqE { a with r := 0, s := 0 } { b with r := 0, s := 0 } = v) :
    Calls Tryd.prog 16 #[.agg #[.int .i64 a.house, .int .i64 a.seq, .int .i64 a.day, .string a.prev, .string a.body, .int .i64 a.r, .int .i64 a.s], .agg #[.int .i64 b.house, .int .i64 b.seq, .int .i64 b.day, .string b.prev, .string b.body, .int .i64 b.r, .int .i64 b.s]] w fun e w' => e = .returned (.bool true) ∧ Below w.heap.size w w' := by
  obtain ⟨m1, m2, T, Z⟩ := two_boxes w a b ht
  have HM1 := Lib.hid m1
  have HM2 := Lib.hid m2
  have HT := Lib.hid T
  have HZ := Lib.hid Z
  have HF := Lib.hid hf
  have HTA := Lib.hid hta
  have HTB := Lib.hid htb
  have H1 := Lib.hid h1
  have hq := run_eql_ent { a with r := 0, s := 0 } { b with r := 0, s := 0 }
  rw [h2] at hq
  have HQ := Lib.hid hq
  clear m1 m2 T Z ht hf hta htb h1 h2 hq
  go_enter Tryd.func16, Tryd.ntmps16
  go_wp2_with fail
  refine (head31 _ HT.out.tabs).mono ?_
  rintro e v1 ⟨rfl, hb⟩
  have T1 := Lib.hid (HT.out.step hb)
  have M1 := Lib.hid (keep7 (by rw [HZ.out]; omega) hb HM1.out)
  have M2 := Lib.hid (keep7 (by rw [HZ.out]; omega) hb HM2.out)
  have hzz := HZ.out
  have hbs := hb.size
  clear hb HM1 HM2 HT HZ
  have l00 : w.heap.size + 1 < v1.heap.size := by omega
  clear hzz hbs
  obtain ⟨a0, a1, a2, a3, a4, a5, a6⟩ := M1.out
  obtain ⟨b0, b1, b2, b3, b4, b5, b6⟩ := M2.out
  have hx := fun w h => Few_any [a, b] (some ⟨v1.heap.size, 0, none⟩) v1.heap.size 0 2 2 w (by show 2 ≤ 9223372036854775807; decide) h
  rw [HF.out] at hx
  have HX := Lib.hid hx
  have HA := Lib.hid (ents2_new v1 a b 63)
  have T2 := Lib.hid (T1.out.alloc (.cells #[.int .i64 a.house, .int .i64 a.seq, .int .i64 a.day, .string a.prev, .string a.body, .int .i64 a.r, .int .i64 a.s, .int .i64 b.house, .int .i64 b.seq, .int .i64 b.day, .string b.prev, .string b.body, .int .i64 b.r, .int .i64 b.s] 63))
  clear hx
  go_wp2_with fail
  refine (HX.out _ HA.out).mono ?_
  rintro e wx ⟨rfl, rfl⟩
  have l0 := l00
  have M3 := Lib.hid (keep7 (by omega) (alloc_below v1 (.cells #[.int .i64 a.house, .int .i64 a.seq, .int .i64 a.day, .string a.prev, .string a.body, .int .i64 a.r, .int .i64 a.s, .int .i64 b.house, .int .i64 b.seq, .int .i64 b.day, .string b.prev, .string b.body, .int .i64 b.r, .int .i64 b.s] 63)) M1.out)
  have M4 := Lib.hid (keep7 l0 (alloc_below v1 (.cells #[.int .i64 a.house, .int .i64 a.seq, .int .i64 a.day, .string a.prev, .string a.body, .int .i64 a.r, .int .i64 a.s, .int .i64 b.house, .int .i64 b.seq, .int .i64 b.day, .string b.prev, .string b.body, .int .i64 b.r, .int .i64 b.s] 63)) M2.out)
  have l1 : w.heap.size + 1 < (v1.alloc (.cells #[.int .i64 a.house, .int .i64 a.seq, .int .i64 a.day, .string a.prev, .string a.body, .int .i64 a.r, .int .i64 a.s, .int .i64 b.house, .int .i64 b.seq, .int .i64 b.day, .string b.prev, .string b.body, .int .i64 b.r, .int .i64 b.s] 63)).heap.size := by simp; omega
  clear a0 a1 a2 a3 a4 a5 a6 b0 b1 b2 b3 b4 b5 b6 M1 M2 l0 HA HX HF
  generalize v1.alloc (.cells #[.int .i64 a.house, .int .i64 a.seq, .int .i64 a.day, .string a.prev, .string a.body, .int .i64 a.r, .int .i64 a.s, .int .i64 b.house, .int .i64 b.seq, .int .i64 b.day, .string b.prev, .string b.body, .int .i64 b.r, .int .i64 b.s] 63) = v2 at *
  have M5 := Lib.hid (keep7 l1 (alloc_below v2 (.cells #[.int .i64 a.house, .int .i64 a.seq, .int .i64 a.day, .string a.prev, .string a.body, .int .i64 a.r, .int .i64 a.s] 63)) M4.out)
  obtain ⟨a0, a1, a2, a3, a4, a5, a6⟩ := M3.out
  obtain ⟨b0, b1, b2, b3, b4, b5, b6⟩ := M5.out
  go_wp2_with fail
  have P3 := Lib.hid (keep7 (w' := (v2.alloc (.cells #[.int .i64 a.house, .int .i64 a.seq, .int .i64 a.day, .string a.prev, .string a.body, .int .i64 0, .int .i64 0] 63)).alloc (.cells #[.int .i64 b.house, .int .i64 b.seq, .int .i64 b.day, .string b.prev, .string b.body, .int .i64 0, .int .i64 0] 63)) (by simp; omega) (alloc_below _ (.cells #[.int .i64 b.house, .int .i64 b.seq, .int .i64 b.day, .string b.prev, .string b.body, .int .i64 0, .int .i64 0] 63)) (keep7 (by omega) (alloc_below v2 (.cells #[.int .i64 a.house, .int .i64 a.seq, .int .i64 a.day, .string a.prev, .string a.body, .int .i64 0, .int .i64 0] 63)) M3.out))
  have P4 := Lib.hid (keep7 (w' := (v2.alloc (.cells #[.int .i64 a.house, .int .i64 a.seq, .int .i64 a.day, .string a.prev, .string a.body, .int .i64 0, .int .i64 0] 63)).alloc (.cells #[.int .i64 b.house, .int .i64 b.seq, .int .i64 b.day, .string b.prev, .string b.body, .int .i64 0, .int .i64 0] 63)) (by simp; omega) (alloc_below _ (.cells #[.int .i64 b.house, .int .i64 b.seq, .int .i64 b.day, .string b.prev, .string b.body, .int .i64 0, .int .i64 0] 63)) (keep7 l1 (alloc_below v2 (.cells #[.int .i64 a.house, .int .i64 a.seq, .int .i64 a.day, .string a.prev, .string a.body, .int .i64 0, .int .i64 0] 63)) M4.out))
  have P5 := Lib.hid (keep7 (w' := (v2.alloc (.cells #[.int .i64 a.house, .int .i64 a.seq, .int .i64 a.day, .string a.prev, .string a.body, .int .i64 0, .int .i64 0] 63)).alloc (.cells #[.int .i64 b.house, .int .i64 b.seq, .int .i64 b.day, .string b.prev, .string b.body, .int .i64 0, .int .i64 0] 63)) (by simp) (alloc_below _ (.cells #[.int .i64 b.house, .int .i64 b.seq, .int .i64 b.day, .string b.prev, .string b.body, .int .i64 0, .int .i64 0] 63)) (new7 v2 a.house a.seq a.day a.prev a.body 0 0 63))
  have P6 : Hid (At7 ((v2.alloc (.cells #[.int .i64 a.house, .int .i64 a.seq, .int .i64 a.day, .string a.prev, .string a.body, .int .i64 0, .int .i64 0] 63)).alloc (.cells #[.int .i64 b.house, .int .i64 b.seq, .int .i64 b.day, .string b.prev, .string b.body, .int .i64 0, .int .i64 0] 63)) (v2.heap.size + 1) b.house b.seq b.day b.prev b.body 0 0) := Lib.hid (by have h := new7 (v2.alloc (.cells #[.int .i64 a.house, .int .i64 a.seq, .int .i64 a.day, .string a.prev, .string a.body, .int .i64 0, .int .i64 0] 63)) b.house b.seq b.day b.prev b.body 0 0 63; rwa [show (v2.alloc (.cells #[.int .i64 a.house, .int .i64 a.seq, .int .i64 a.day, .string a.prev, .string a.body, .int .i64 0, .int .i64 0] 63)).heap.size = v2.heap.size + 1 by simp] at h)
  have T4 := Lib.hid ((T2.out.alloc (.cells #[.int .i64 a.house, .int .i64 a.seq, .int .i64 a.day, .string a.prev, .string a.body, .int .i64 0, .int .i64 0] 63)).alloc (.cells #[.int .i64 b.house, .int .i64 b.seq, .int .i64 b.day, .string b.prev, .string b.body, .int .i64 0, .int .i64 0] 63))
  have k0 : w.heap.size < ((v2.alloc (.cells #[.int .i64 a.house, .int .i64 a.seq, .int .i64 a.day, .string a.prev, .string a.body, .int .i64 0, .int .i64 0] 63)).alloc (.cells #[.int .i64 b.house, .int .i64 b.seq, .int .i64 b.day, .string b.prev, .string b.body, .int .i64 0, .int .i64 0] 63)).heap.size := by simp; omega
  have k1 : w.heap.size + 1 < ((v2.alloc (.cells #[.int .i64 a.house, .int .i64 a.seq, .int .i64 a.day, .string a.prev, .string a.body, .int .i64 0, .int .i64 0] 63)).alloc (.cells #[.int .i64 b.house, .int .i64 b.seq, .int .i64 b.day, .string b.prev, .string b.body, .int .i64 0, .int .i64 0] 63)).heap.size := by simp; omega
  have k2 : v2.heap.size < ((v2.alloc (.cells #[.int .i64 a.house, .int .i64 a.seq, .int .i64 a.day, .string a.prev, .string a.body, .int .i64 0, .int .i64 0] 63)).alloc (.cells #[.int .i64 b.house, .int .i64 b.seq, .int .i64 b.day, .string b.prev, .string b.body, .int .i64 0, .int .i64 0] 63)).heap.size := by simp; omega
  have k3 : v2.heap.size + 1 < ((v2.alloc (.cells #[.int .i64 a.house, .int .i64 a.seq, .int .i64 a.day, .string a.prev, .string a.body, .int .i64 0, .int .i64 0] 63)).alloc (.cells #[.int .i64 b.house, .int .i64 b.seq, .int .i64 b.day, .string b.prev, .string b.body, .int .i64 0, .int .i64 0] 63)).heap.size := by simp
  clear a0 a1 a2 a3 a4 a5 a6 b0 b1 b2 b3 b4 b5 b6 M3 M4 M5 l1
  generalize (v2.alloc (.cells #[.int .i64 a.house, .int .i64 a.seq, .int .i64 a.day, .string a.prev, .string a.body, .int .i64 0, .int .i64 0] 63)).alloc (.cells #[.int .i64 b.house, .int .i64 b.seq, .int .i64 b.day, .string b.prev, .string b.body, .int .i64 0, .int .i64 0] 63) = v4 at *
  generalize v2.heap.size = nx at *
  obtain ⟨a0, a1, a2, a3, a4, a5, a6⟩ := P3.out
  obtain ⟨b0, b1, b2, b3, b4, b5, b6⟩ := P4.out
  obtain ⟨x0, x1, x2, x3, x4, x5, x6⟩ := P5.out
  obtain ⟨y0, y1, y2, y3, y4, y5, y6⟩ := P6.out
  have h1 := H1.out
  have hq := HQ.out
  go_region_held_law (fun w' => w'.cell? ⟨w.heap.size, 0, none⟩ = some (.int .i64 a.house) ∧ w'.cell? ⟨w.heap.size, 1, none⟩ = some (.int .i64 a.seq) ∧ w'.cell? ⟨w.heap.size, 2, none⟩ = some (.int .i64 a.day) ∧ w'.cell? ⟨w.heap.size, 3, none⟩ = some (.string a.prev) ∧ w'.cell? ⟨w.heap.size, 4, none⟩ = some (.string a.body) ∧ w'.cell? ⟨w.heap.size, 5, none⟩ = some (.int .i64 a.r) ∧ w'.cell? ⟨w.heap.size, 6, none⟩ = some (.int .i64 a.s) ∧ w'.cell? ⟨w.heap.size + 1, 0, none⟩ = some (.int .i64 b.house) ∧ w'.cell? ⟨w.heap.size + 1, 1, none⟩ = some (.int .i64 b.seq) ∧ w'.cell? ⟨w.heap.size + 1, 2, none⟩ = some (.int .i64 b.day) ∧ w'.cell? ⟨w.heap.size + 1, 3, none⟩ = some (.string b.prev) ∧ w'.cell? ⟨w.heap.size + 1, 4, none⟩ = some (.string b.body) ∧ w'.cell? ⟨w.heap.size + 1, 5, none⟩ = some (.int .i64 b.r) ∧ w'.cell? ⟨w.heap.size + 1, 6, none⟩ = some (.int .i64 b.s) ∧ w'.cell? ⟨nx, 0, none⟩ = some (.int .i64 a.house) ∧ w'.cell? ⟨nx, 1, none⟩ = some (.int .i64 a.seq) ∧ w'.cell? ⟨nx, 2, none⟩ = some (.int .i64 a.day) ∧ w'.cell? ⟨nx, 3, none⟩ = some (.string a.prev) ∧ w'.cell? ⟨nx, 4, none⟩ = some (.string a.body) ∧ w'.cell? ⟨nx, 5, none⟩ = some (.int .i64 0) ∧ w'.cell? ⟨nx, 6, none⟩ = some (.int .i64 0) ∧ w'.cell? ⟨nx + 1, 0, none⟩ = some (.int .i64 b.house) ∧ w'.cell? ⟨nx + 1, 1, none⟩ = some (.int .i64 b.seq) ∧ w'.cell? ⟨nx + 1, 2, none⟩ = some (.int .i64 b.day) ∧ w'.cell? ⟨nx + 1, 3, none⟩ = some (.string b.prev) ∧ w'.cell? ⟨nx + 1, 4, none⟩ = some (.string b.body) ∧ w'.cell? ⟨nx + 1, 5, none⟩ = some (.int .i64 0) ∧ w'.cell? ⟨nx + 1, 6, none⟩ = some (.int .i64 0) ∧ Trk v4 w') (first | (go_keep; done) | exact keep_ct k0 k1 k2 k3 hba (by assumption) | exact keep_ct k0 k1 k2 k3 hbb (by assumption) | exact keep_ct k0 k1 k2 k3 (drewN_below _ 1) (by assumption) | exact keep_ct k0 k1 k2 k3 (alloc_below _ _) (by assumption) | exact keep_ct k0 k1 k2 k3 (alloc_drew_below _ _) (by assumption) | exact keep_ct k0 k1 k2 k3 (drewN_below _ 1) (ini_ct a0 a1 a2 a3 a4 a5 a6 b0 b1 b2 b3 b4 b5 b6 x0 x1 x2 x3 x4 x5 x6 y0 y1 y2 y3 y4 y5 y6 (Trk.start T4.out.tabs)) | exact keep_ct k0 k1 k2 k3 (alloc_below _ _) (ini_ct a0 a1 a2 a3 a4 a5 a6 b0 b1 b2 b3 b4 b5 b6 x0 x1 x2 x3 x4 x5 x6 y0 y1 y2 y3 y4 y5 y6 (Trk.start T4.out.tabs)) | exact keep_ct k0 k1 k2 k3 (alloc_drew_below _ _) (ini_ct a0 a1 a2 a3 a4 a5 a6 b0 b1 b2 b3 b4 b5 b6 x0 x1 x2 x3 x4 x5 x6 y0 y1 y2 y3 y4 y5 y6 (Trk.start T4.out.tabs)) | exact (ini_ct a0 a1 a2 a3 a4 a5 a6 b0 b1 b2 b3 b4 b5 b6 x0 x1 x2 x3 x4 x5 x6 y0 y1 y2 y3 y4 y5 y6 (Trk.start T4.out.tabs))) (first | (go_at_call_of 43 (Value.agg #[Value.int IntKind.i64 a.house, Value.int IntKind.i64 a.seq, Value.int IntKind.i64 a.day, Value.string a.prev, Value.string a.body, Value.int IntKind.i64 a.r, Value.int IntKind.i64 a.s]); refine (HTA.out _ (by exact (held_ct (by assumption)).tabs)).mono ?_; rintro e wa ⟨rfl, hba⟩) | (go_at_call_of 43 (Value.agg #[Value.int IntKind.i64 b.house, Value.int IntKind.i64 b.seq, Value.int IntKind.i64 b.day, Value.string b.prev, Value.string b.body, Value.int IntKind.i64 b.r, Value.int IntKind.i64 b.s]); refine (HTB.out _ (by exact (held_ct (by assumption)).tabs)).mono ?_; rintro e wb ⟨rfl, hbb⟩))
  all_goals
    have HFF := Lib.hid (held_ct (by assumption))
    go_wp2_with fail
    go_ret
    exact ⟨rfl, T4.out.bel.trans (HFF.out.bel.mono T4.out.bel.size)⟩
theorem few2 {a b : Ent} (h : fewE [a, b] 2 = true) : (a.prev.size ≤ 100 ∧ a.body.size ≤ 2100) ∧ (b.prev.size ≤ 100 ∧ b.body.size ≤ 2100) := by
  have h2 := (fewE_iff.1 h).2
  exact ⟨h2 a (by simp), h2 b (by simp)⟩
/-- An entry's numbers are integers of Go's. -/
structure Ent.I (e : Ent) : Prop where
  house : I64 e.house
  seq : I64 e.seq
  day : I64 e.day
  r : I64 e.r
  s : I64 e.s
theorem Ent.I.ok {e : Ent} (h : e.I) (h1 : e.prev.size ≤ 100) (h2 : e.body.size ≤ 2100) : e.Ok := ⟨h.house, h.seq, h.day, h.r, h.s, by omega, by omega⟩
theorem law_ChainTexts (a b : Ent) (w : World) (ha : a.I) (hb : b.I) (ht : Tabs w) :
    Calls Tryd.prog 16 #[.agg #[.int .i64 a.house, .int .i64 a.seq, .int .i64 a.day, .string a.prev, .string a.body, .int .i64 a.r, .int .i64 a.s], .agg #[.int .i64 b.house, .int .i64 b.seq, .int .i64 b.day, .string b.prev, .string b.body, .int .i64 b.r, .int .i64 b.s]] w fun e w' => e = .returned (.bool true) ∧ Below w.heap.size w w' := by
  rcases hf : fewE [a, b] 2 with _ | _
  · exact texts_few a b w ht hf
  · obtain ⟨⟨p1, p2⟩, ⟨p3, p4⟩⟩ := few2 hf
    have oa := ha.ok p1 p2
    have ob := hb.ok p3 p4
    exact texts_main a b _ _ _ w ht hf (fun w ht => Text_raw _ _ _ _ _ _ _ w oa.house oa.seq oa.day oa.prev oa.body ht) (fun w ht => Text_raw _ _ _ _ _ _ _ w ob.house ob.seq ob.day ob.prev ob.body ht) (texts_law a b) rfl
end Go.Proofs.YtpdbcahiipbhnaaDoor
