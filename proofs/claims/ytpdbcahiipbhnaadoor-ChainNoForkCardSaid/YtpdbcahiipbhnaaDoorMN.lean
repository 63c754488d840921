/- ChainNoFork: the walk and the law. -/
import Derived.Test.YtpdbcahiipbhnaaDoorMV
import Derived.Test.YtpdbcahiipbhnaaDoorMT
import Derived.Deep.QuietTactic
namespace Go.Proofs.YtpdbcahiipbhnaaDoor
open Go.RowKit

theorem keep_bx {w0 w w' : World} {n0 n1 : Nat} {a b : Ent} (l0 : n0 < w0.heap.size) (l1 : n1 < w0.heap.size) (hb : Below w.heap.size w w') (H : w.cell? ⟨n0, 0, none⟩ = some (.int .i64 a.house) ∧ w.cell? ⟨n0, 1, none⟩ = some (.int .i64 a.seq) ∧ w.cell? ⟨n0, 2, none⟩ = some (.int .i64 a.day) ∧ w.cell? ⟨n0, 3, none⟩ = some (.string a.prev) ∧ w.cell? ⟨n0, 4, none⟩ = some (.string a.body) ∧ w.cell? ⟨n0, 5, none⟩ = some (.int .i64 a.r) ∧ w.cell? ⟨n0, 6, none⟩ = some (.int .i64 a.s) ∧ w.cell? ⟨n1, 0, none⟩ = some (.int .i64 b.house) ∧ w.cell? ⟨n1, 1, none⟩ = some (.int .i64 b.seq) ∧ w.cell? ⟨n1, 2, none⟩ = some (.int .i64 b.day) ∧ w.cell? ⟨n1, 3, none⟩ = some (.string b.prev) ∧ w.cell? ⟨n1, 4, none⟩ = some (.string b.body) ∧ w.cell? ⟨n1, 5, none⟩ = some (.int .i64 b.r) ∧ w.cell? ⟨n1, 6, none⟩ = some (.int .i64 b.s) ∧ Trk w0 w) : w'.cell? ⟨n0, 0, none⟩ = some (.int .i64 a.house) ∧ w'.cell? ⟨n0, 1, none⟩ = some (.int .i64 a.seq) ∧ w'.cell? ⟨n0, 2, none⟩ = some (.int .i64 a.day) ∧ w'.cell? ⟨n0, 3, none⟩ = some (.string a.prev) ∧ w'.cell? ⟨n0, 4, none⟩ = some (.string a.body) ∧ w'.cell? ⟨n0, 5, none⟩ = some (.int .i64 a.r) ∧ w'.cell? ⟨n0, 6, none⟩ = some (.int .i64 a.s) ∧ w'.cell? ⟨n1, 0, none⟩ = some (.int .i64 b.house) ∧ w'.cell? ⟨n1, 1, none⟩ = some (.int .i64 b.seq) ∧ w'.cell? ⟨n1, 2, none⟩ = some (.int .i64 b.day) ∧ w'.cell? ⟨n1, 3, none⟩ = some (.string b.prev) ∧ w'.cell? ⟨n1, 4, none⟩ = some (.string b.body) ∧ w'.cell? ⟨n1, 5, none⟩ = some (.int .i64 b.r) ∧ w'.cell? ⟨n1, 6, none⟩ = some (.int .i64 b.s) ∧ Trk w0 w' :=
  ⟨(hb.cell (p := ⟨n0, 0, none⟩) (Nat.lt_of_lt_of_le l0 H.2.2.2.2.2.2.2.2.2.2.2.2.2.2.bel.size)).trans H.1, (hb.cell (p := ⟨n0, 1, none⟩) (Nat.lt_of_lt_of_le l0 H.2.2.2.2.2.2.2.2.2.2.2.2.2.2.bel.size)).trans H.2.1, (hb.cell (p := ⟨n0, 2, none⟩) (Nat.lt_of_lt_of_le l0 H.2.2.2.2.2.2.2.2.2.2.2.2.2.2.bel.size)).trans H.2.2.1, (hb.cell (p := ⟨n0, 3, none⟩) (Nat.lt_of_lt_of_le l0 H.2.2.2.2.2.2.2.2.2.2.2.2.2.2.bel.size)).trans H.2.2.2.1, (hb.cell (p := ⟨n0, 4, none⟩) (Nat.lt_of_lt_of_le l0 H.2.2.2.2.2.2.2.2.2.2.2.2.2.2.bel.size)).trans H.2.2.2.2.1, (hb.cell (p := ⟨n0, 5, none⟩) (Nat.lt_of_lt_of_le l0 H.2.2.2.2.2.2.2.2.2.2.2.2.2.2.bel.size)).trans H.2.2.2.2.2.1, (hb.cell (p := ⟨n0, 6, none⟩) (Nat.lt_of_lt_of_le l0 H.2.2.2.2.2.2.2.2.2.2.2.2.2.2.bel.size)).trans H.2.2.2.2.2.2.1, (hb.cell (p := ⟨n1, 0, none⟩) (Nat.lt_of_lt_of_le l1 H.2.2.2.2.2.2.2.2.2.2.2.2.2.2.bel.size)).trans H.2.2.2.2.2.2.2.1, (hb.cell (p := ⟨n1, 1, none⟩) (Nat.lt_of_lt_of_le l1 H.2.2.2.2.2.2.2.2.2.2.2.2.2.2.bel.size)).trans H.2.2.2.2.2.2.2.2.1, (hb.cell (p := ⟨n1, 2, none⟩) (Nat.lt_of_lt_of_le l1 H.2.2.2.2.2.2.2.2.2.2.2.2.2.2.bel.size)).trans H.2.2.2.2.2.2.2.2.2.1, (hb.cell (p := ⟨n1, 3, none⟩) (Nat.lt_of_lt_of_le l1 H.2.2.2.2.2.2.2.2.2.2.2.2.2.2.bel.size)).trans H.2.2.2.2.2.2.2.2.2.2.1, (hb.cell (p := ⟨n1, 4, none⟩) (Nat.lt_of_lt_of_le l1 H.2.2.2.2.2.2.2.2.2.2.2.2.2.2.bel.size)).trans H.2.2.2.2.2.2.2.2.2.2.2.1, (hb.cell (p := ⟨n1, 5, none⟩) (Nat.lt_of_lt_of_le l1 H.2.2.2.2.2.2.2.2.2.2.2.2.2.2.bel.size)).trans H.2.2.2.2.2.2.2.2.2.2.2.2.1, (hb.cell (p := ⟨n1, 6, none⟩) (Nat.lt_of_lt_of_le l1 H.2.2.2.2.2.2.2.2.2.2.2.2.2.2.bel.size)).trans H.2.2.2.2.2.2.2.2.2.2.2.2.2.1, H.2.2.2.2.2.2.2.2.2.2.2.2.2.2.step hb⟩
theorem held_bx {w0 w : World} {n0 n1 : Nat} {a b : Ent} (H : w.cell? ⟨n0, 0, none⟩ = some (.int .i64 a.house) ∧ w.cell? ⟨n0, 1, none⟩ = some (.int .i64 a.seq) ∧ w.cell? ⟨n0, 2, none⟩ = some (.int .i64 a.day) ∧ w.cell? ⟨n0, 3, none⟩ = some (.string a.prev) ∧ w.cell? ⟨n0, 4, none⟩ = some (.string a.body) ∧ w.cell? ⟨n0, 5, none⟩ = some (.int .i64 a.r) ∧ w.cell? ⟨n0, 6, none⟩ = some (.int .i64 a.s) ∧ w.cell? ⟨n1, 0, none⟩ = some (.int .i64 b.house) ∧ w.cell? ⟨n1, 1, none⟩ = some (.int .i64 b.seq) ∧ w.cell? ⟨n1, 2, none⟩ = some (.int .i64 b.day) ∧ w.cell? ⟨n1, 3, none⟩ = some (.string b.prev) ∧ w.cell? ⟨n1, 4, none⟩ = some (.string b.body) ∧ w.cell? ⟨n1, 5, none⟩ = some (.int .i64 b.r) ∧ w.cell? ⟨n1, 6, none⟩ = some (.int .i64 b.s) ∧ Trk w0 w) : Trk w0 w := H.2.2.2.2.2.2.2.2.2.2.2.2.2.2
theorem ini_bx {w0 w : World} {n0 n1 : Nat} {a b : Ent} (h0 : w.cell? ⟨n0, 0, none⟩ = some (.int .i64 a.house)) (h1 : w.cell? ⟨n0, 1, none⟩ = some (.int .i64 a.seq)) (h2 : w.cell? ⟨n0, 2, none⟩ = some (.int .i64 a.day)) (h3 : w.cell? ⟨n0, 3, none⟩ = some (.string a.prev)) (h4 : w.cell? ⟨n0, 4, none⟩ = some (.string a.body)) (h5 : w.cell? ⟨n0, 5, none⟩ = some (.int .i64 a.r)) (h6 : w.cell? ⟨n0, 6, none⟩ = some (.int .i64 a.s)) (h7 : w.cell? ⟨n1, 0, none⟩ = some (.int .i64 b.house)) (h8 : w.cell? ⟨n1, 1, none⟩ = some (.int .i64 b.seq)) (h9 : w.cell? ⟨n1, 2, none⟩ = some (.int .i64 b.day)) (h10 : w.cell? ⟨n1, 3, none⟩ = some (.string b.prev)) (h11 : w.cell? ⟨n1, 4, none⟩ = some (.string b.body)) (h12 : w.cell? ⟨n1, 5, none⟩ = some (.int .i64 b.r)) (h13 : w.cell? ⟨n1, 6, none⟩ = some (.int .i64 b.s)) (ht : Trk w0 w) : w.cell? ⟨n0, 0, none⟩ = some (.int .i64 a.house) ∧ w.cell? ⟨n0, 1, none⟩ = some (.int .i64 a.seq) ∧ w.cell? ⟨n0, 2, none⟩ = some (.int .i64 a.day) ∧ w.cell? ⟨n0, 3, none⟩ = some (.string a.prev) ∧ w.cell? ⟨n0, 4, none⟩ = some (.string a.body) ∧ w.cell? ⟨n0, 5, none⟩ = some (.int .i64 a.r) ∧ w.cell? ⟨n0, 6, none⟩ = some (.int .i64 a.s) ∧ w.cell? ⟨n1, 0, none⟩ = some (.int .i64 b.house) ∧ w.cell? ⟨n1, 1, none⟩ = some (.int .i64 b.seq) ∧ w.cell? ⟨n1, 2, none⟩ = some (.int .i64 b.day) ∧ w.cell? ⟨n1, 3, none⟩ = some (.string b.prev) ∧ w.cell? ⟨n1, 4, none⟩ = some (.string b.body) ∧ w.cell? ⟨n1, 5, none⟩ = some (.int .i64 b.r) ∧ w.cell? ⟨n1, 6, none⟩ = some (.int .i64 b.s) ∧ Trk w0 w :=
  ⟨h0, h1, h2, h3, h4, h5, h6, h7, h8, h9, h10, h11, h12, h13, ht⟩
theorem keep_nf {w0 w w' : World} {n0 : Nat} {o0 o1 : Nat} {a b : Ent} (l0 : n0 < w0.heap.size) (hb : Below w.heap.size w w') (H : w.cell? ⟨n0, o0, none⟩ = some (.int .i64 a.house) ∧ w.cell? ⟨n0, o0 + 1, none⟩ = some (.int .i64 a.seq) ∧ w.cell? ⟨n0, o0 + 2, none⟩ = some (.int .i64 a.day) ∧ w.cell? ⟨n0, o0 + 3, none⟩ = some (.string a.prev) ∧ w.cell? ⟨n0, o0 + 4, none⟩ = some (.string a.body) ∧ w.cell? ⟨n0, o0 + 5, none⟩ = some (.int .i64 a.r) ∧ w.cell? ⟨n0, o0 + 6, none⟩ = some (.int .i64 a.s) ∧ w.cell? ⟨n0, o1, none⟩ = some (.int .i64 b.house) ∧ w.cell? ⟨n0, o1 + 1, none⟩ = some (.int .i64 b.seq) ∧ w.cell? ⟨n0, o1 + 2, none⟩ = some (.int .i64 b.day) ∧ w.cell? ⟨n0, o1 + 3, none⟩ = some (.string b.prev) ∧ w.cell? ⟨n0, o1 + 4, none⟩ = some (.string b.body) ∧ w.cell? ⟨n0, o1 + 5, none⟩ = some (.int .i64 b.r) ∧ w.cell? ⟨n0, o1 + 6, none⟩ = some (.int .i64 b.s) ∧ Trk w0 w) : w'.cell? ⟨n0, o0, none⟩ = some (.int .i64 a.house) ∧ w'.cell? ⟨n0, o0 + 1, none⟩ = some (.int .i64 a.seq) ∧ w'.cell? ⟨n0, o0 + 2, none⟩ = some (.int .i64 a.day) ∧ w'.cell? ⟨n0, o0 + 3, none⟩ = some (.string a.prev) ∧ w'.cell? ⟨n0, o0 + 4, none⟩ = some (.string a.body) ∧ w'.cell? ⟨n0, o0 + 5, none⟩ = some (.int .i64 a.r) ∧ w'.cell? ⟨n0, o0 + 6, none⟩ = some (.int .i64 a.s) ∧ w'.cell? ⟨n0, o1, none⟩ = some (.int .i64 b.house) ∧ w'.cell? ⟨n0, o1 + 1, none⟩ = some (.int .i64 b.seq) ∧ w'.cell? ⟨n0, o1 + 2, none⟩ = some (.int .i64 b.day) ∧ w'.cell? ⟨n0, o1 + 3, none⟩ = some (.string b.prev) ∧ w'.cell? ⟨n0, o1 + 4, none⟩ = some (.string b.body) ∧ w'.cell? ⟨n0, o1 + 5, none⟩ = some (.int .i64 b.r) ∧ w'.cell? ⟨n0, o1 + 6, none⟩ = some (.int .i64 b.s) ∧ Trk w0 w' :=
  ⟨(hb.cell (p := ⟨n0, o0, none⟩) (Nat.lt_of_lt_of_le l0 H.2.2.2.2.2.2.2.2.2.2.2.2.2.2.bel.size)).trans H.1, (hb.cell (p := ⟨n0, o0 + 1, none⟩) (Nat.lt_of_lt_of_le l0 H.2.2.2.2.2.2.2.2.2.2.2.2.2.2.bel.size)).trans H.2.1, (hb.cell (p := ⟨n0, o0 + 2, none⟩) (Nat.lt_of_lt_of_le l0 H.2.2.2.2.2.2.2.2.2.2.2.2.2.2.bel.size)).trans H.2.2.1, (hb.cell (p := ⟨n0, o0 + 3, none⟩) (Nat.lt_of_lt_of_le l0 H.2.2.2.2.2.2.2.2.2.2.2.2.2.2.bel.size)).trans H.2.2.2.1, (hb.cell (p := ⟨n0, o0 + 4, none⟩) (Nat.lt_of_lt_of_le l0 H.2.2.2.2.2.2.2.2.2.2.2.2.2.2.bel.size)).trans H.2.2.2.2.1, (hb.cell (p := ⟨n0, o0 + 5, none⟩) (Nat.lt_of_lt_of_le l0 H.2.2.2.2.2.2.2.2.2.2.2.2.2.2.bel.size)).trans H.2.2.2.2.2.1, (hb.cell (p := ⟨n0, o0 + 6, none⟩) (Nat.lt_of_lt_of_le l0 H.2.2.2.2.2.2.2.2.2.2.2.2.2.2.bel.size)).trans H.2.2.2.2.2.2.1, (hb.cell (p := ⟨n0, o1, none⟩) (Nat.lt_of_lt_of_le l0 H.2.2.2.2.2.2.2.2.2.2.2.2.2.2.bel.size)).trans H.2.2.2.2.2.2.2.1, (hb.cell (p := ⟨n0, o1 + 1, none⟩) (Nat.lt_of_lt_of_le l0 H.2.2.2.2.2.2.2.2.2.2.2.2.2.2.bel.size)).trans H.2.2.2.2.2.2.2.2.1, (hb.cell (p := ⟨n0, o1 + 2, none⟩) (Nat.lt_of_lt_of_le l0 H.2.2.2.2.2.2.2.2.2.2.2.2.2.2.bel.size)).trans H.2.2.2.2.2.2.2.2.2.1, (hb.cell (p := ⟨n0, o1 + 3, none⟩) (Nat.lt_of_lt_of_le l0 H.2.2.2.2.2.2.2.2.2.2.2.2.2.2.bel.size)).trans H.2.2.2.2.2.2.2.2.2.2.1, (hb.cell (p := ⟨n0, o1 + 4, none⟩) (Nat.lt_of_lt_of_le l0 H.2.2.2.2.2.2.2.2.2.2.2.2.2.2.bel.size)).trans H.2.2.2.2.2.2.2.2.2.2.2.1, (hb.cell (p := ⟨n0, o1 + 5, none⟩) (Nat.lt_of_lt_of_le l0 H.2.2.2.2.2.2.2.2.2.2.2.2.2.2.bel.size)).trans H.2.2.2.2.2.2.2.2.2.2.2.2.1, (hb.cell (p := ⟨n0, o1 + 6, none⟩) (Nat.lt_of_lt_of_le l0 H.2.2.2.2.2.2.2.2.2.2.2.2.2.2.bel.size)).trans H.2.2.2.2.2.2.2.2.2.2.2.2.2.1, H.2.2.2.2.2.2.2.2.2.2.2.2.2.2.step hb⟩
theorem held_nf {w0 w : World} {n0 : Nat} {o0 o1 : Nat} {a b : Ent} (H : w.cell? ⟨n0, o0, none⟩ = some (.int .i64 a.house) ∧ w.cell? ⟨n0, o0 + 1, none⟩ = some (.int .i64 a.seq) ∧ w.cell? ⟨n0, o0 + 2, none⟩ = some (.int .i64 a.day) ∧ w.cell? ⟨n0, o0 + 3, none⟩ = some (.string a.prev) ∧ w.cell? ⟨n0, o0 + 4, none⟩ = some (.string a.body) ∧ w.cell? ⟨n0, o0 + 5, none⟩ = some (.int .i64 a.r) ∧ w.cell? ⟨n0, o0 + 6, none⟩ = some (.int .i64 a.s) ∧ w.cell? ⟨n0, o1, none⟩ = some (.int .i64 b.house) ∧ w.cell? ⟨n0, o1 + 1, none⟩ = some (.int .i64 b.seq) ∧ w.cell? ⟨n0, o1 + 2, none⟩ = some (.int .i64 b.day) ∧ w.cell? ⟨n0, o1 + 3, none⟩ = some (.string b.prev) ∧ w.cell? ⟨n0, o1 + 4, none⟩ = some (.string b.body) ∧ w.cell? ⟨n0, o1 + 5, none⟩ = some (.int .i64 b.r) ∧ w.cell? ⟨n0, o1 + 6, none⟩ = some (.int .i64 b.s) ∧ Trk w0 w) : Trk w0 w := H.2.2.2.2.2.2.2.2.2.2.2.2.2.2
theorem ini_nf {w0 w : World} {n0 : Nat} {o0 o1 : Nat} {a b : Ent} (h0 : w.cell? ⟨n0, o0, none⟩ = some (.int .i64 a.house)) (h1 : w.cell? ⟨n0, o0 + 1, none⟩ = some (.int .i64 a.seq)) (h2 : w.cell? ⟨n0, o0 + 2, none⟩ = some (.int .i64 a.day)) (h3 : w.cell? ⟨n0, o0 + 3, none⟩ = some (.string a.prev)) (h4 : w.cell? ⟨n0, o0 + 4, none⟩ = some (.string a.body)) (h5 : w.cell? ⟨n0, o0 + 5, none⟩ = some (.int .i64 a.r)) (h6 : w.cell? ⟨n0, o0 + 6, none⟩ = some (.int .i64 a.s)) (h7 : w.cell? ⟨n0, o1, none⟩ = some (.int .i64 b.house)) (h8 : w.cell? ⟨n0, o1 + 1, none⟩ = some (.int .i64 b.seq)) (h9 : w.cell? ⟨n0, o1 + 2, none⟩ = some (.int .i64 b.day)) (h10 : w.cell? ⟨n0, o1 + 3, none⟩ = some (.string b.prev)) (h11 : w.cell? ⟨n0, o1 + 4, none⟩ = some (.string b.body)) (h12 : w.cell? ⟨n0, o1 + 5, none⟩ = some (.int .i64 b.r)) (h13 : w.cell? ⟨n0, o1 + 6, none⟩ = some (.int .i64 b.s)) (ht : Trk w0 w) : w.cell? ⟨n0, o0, none⟩ = some (.int .i64 a.house) ∧ w.cell? ⟨n0, o0 + 1, none⟩ = some (.int .i64 a.seq) ∧ w.cell? ⟨n0, o0 + 2, none⟩ = some (.int .i64 a.day) ∧ w.cell? ⟨n0, o0 + 3, none⟩ = some (.string a.prev) ∧ w.cell? ⟨n0, o0 + 4, none⟩ = some (.string a.body) ∧ w.cell? ⟨n0, o0 + 5, none⟩ = some (.int .i64 a.r) ∧ w.cell? ⟨n0, o0 + 6, none⟩ = some (.int .i64 a.s) ∧ w.cell? ⟨n0, o1, none⟩ = some (.int .i64 b.house) ∧ w.cell? ⟨n0, o1 + 1, none⟩ = some (.int .i64 b.seq) ∧ w.cell? ⟨n0, o1 + 2, none⟩ = some (.int .i64 b.day) ∧ w.cell? ⟨n0, o1 + 3, none⟩ = some (.string b.prev) ∧ w.cell? ⟨n0, o1 + 4, none⟩ = some (.string b.body) ∧ w.cell? ⟨n0, o1 + 5, none⟩ = some (.int .i64 b.r) ∧ w.cell? ⟨n0, o1 + 6, none⟩ = some (.int .i64 b.s) ∧ Trk w0 w :=
  ⟨h0, h1, h2, h3, h4, h5, h6, h7, h8, h9, h10, h11, h12, h13, ht⟩

set_option maxHeartbeats 4000000 in
set_option maxRecDepth 100000 in
theorem nofork_few1 (a b : Ent) (l : List Ent) (ao : Option Addr) (lb lo c : Nat) (ho y : Int) (w : World) (hl : EntsAt w ao lb lo l) (ht : Tabs w) (f0 : fewE [a, b] 2 = false) :
    Calls Tryd.prog 15 #[.agg #[.int .i64 a.house, .int .i64 a.seq, .int .i64 a.day, .string a.prev, .string a.body, .int .i64 a.r, .int .i64 a.s], .agg #[.int .i64 b.house, .int .i64 b.seq, .int .i64 b.day, .string b.prev, .string b.body, .int .i64 b.r, .int .i64 b.s], .slice ao l.length c, .int .i64 ho, .int .i64 y] w fun e w' => e = .returned (.bool true) ∧ Below w.heap.size w w' := by
  obtain ⟨m1, m2, T, Z⟩ := two_boxes w a b ht
  have HM1 := Lib.hid m1
  have HM2 := Lib.hid m2
  have HT := Lib.hid T
  have HZ := Lib.hid Z
  have HL := Lib.hid (hl.step T.bel)
  clear m1 m2 T Z ht hl
  go_enter Tryd.func15, Tryd.ntmps15
  go_wp2_with fail
  refine (head31 _ HT.out.tabs).mono ?_
  rintro e v1 ⟨rfl, hb⟩
  have T1 := Lib.hid (HT.out.step hb)
  have M1 := Lib.hid (keep7 (by rw [HZ.out]; omega) hb HM1.out)
  have M2 := Lib.hid (keep7 (by rw [HZ.out]; omega) hb HM2.out)
  have l00 : w.heap.size + 1 < v1.heap.size := by have := hb.size; have := HZ.out; omega
  replace HL := Lib.hid (HL.out.step hb)
  clear hb HM1 HM2 HT HZ
  obtain ⟨a0, a1, a2, a3, a4, a5, a6⟩ := M1.out
  obtain ⟨b0, b1, b2, b3, b4, b5, b6⟩ := M2.out
  have hx := fun w h => Few_any [a, b] (some ⟨v1.heap.size, 0, none⟩) v1.heap.size 0 2 2 w (by show 2 ≤ 9223372036854775807; decide) h
  rw [f0] at hx
  have HX := Lib.hid hx
  have HA := Lib.hid (ents2_new v1 a b 63)
  have T2 := Lib.hid (T1.out.alloc (.cells #[.int .i64 a.house, .int .i64 a.seq, .int .i64 a.day, .string a.prev, .string a.body, .int .i64 a.r, .int .i64 a.s, .int .i64 b.house, .int .i64 b.seq, .int .i64 b.day, .string b.prev, .string b.body, .int .i64 b.r, .int .i64 b.s] 63))
  have hbx := alloc_below v1 (.cells #[.int .i64 a.house, .int .i64 a.seq, .int .i64 a.day, .string a.prev, .string a.body, .int .i64 a.r, .int .i64 a.s, .int .i64 b.house, .int .i64 b.seq, .int .i64 b.day, .string b.prev, .string b.body, .int .i64 b.r, .int .i64 b.s] 63)
  have M3 := Lib.hid (keep7 (by omega) hbx M1.out)
  have M4 := Lib.hid (keep7 l00 hbx M2.out)
  have l01 : w.heap.size + 1 < (v1.alloc (.cells #[.int .i64 a.house, .int .i64 a.seq, .int .i64 a.day, .string a.prev, .string a.body, .int .i64 a.r, .int .i64 a.s, .int .i64 b.house, .int .i64 b.seq, .int .i64 b.day, .string b.prev, .string b.body, .int .i64 b.r, .int .i64 b.s] 63)).heap.size := by simp; omega
  replace HL := Lib.hid (HL.out.step hbx)
  clear hx hbx
  go_wp2_with fail
  refine (HX.out _ HA.out).mono ?_
  rintro e wx ⟨rfl, rfl⟩
  go_wp2_with fail
  go_ret
  exact ⟨rfl, T2.out.bel⟩
set_option maxHeartbeats 4000000 in
set_option maxRecDepth 100000 in
theorem nofork_few2 (a b : Ent) (l : List Ent) (ao : Option Addr) (lb lo c : Nat) (ho y : Int) (w : World) (hl : EntsAt w ao lb lo l) (ht : Tabs w) (nl : l.length ≤ 9223372036854775807) (f0 : fewE [a, b] 2 = true) (f1 : fewE l 14 = false) :
    Calls Tryd.prog 15 #[.agg #[.int .i64 a.house, .int .i64 a.seq, .int .i64 a.day, .string a.prev, .string a.body, .int .i64 a.r, .int .i64 a.s], .agg #[.int .i64 b.house, .int .i64 b.seq, .int .i64 b.day, .string b.prev, .string b.body, .int .i64 b.r, .int .i64 b.s], .slice ao l.length c, .int .i64 ho, .int .i64 y] w fun e w' => e = .returned (.bool true) ∧ Below w.heap.size w w' := by
  obtain ⟨m1, m2, T, Z⟩ := two_boxes w a b ht
  have HM1 := Lib.hid m1
  have HM2 := Lib.hid m2
  have HT := Lib.hid T
  have HZ := Lib.hid Z
  have HL := Lib.hid (hl.step T.bel)
  clear m1 m2 T Z ht hl
  go_enter Tryd.func15, Tryd.ntmps15
  go_wp2_with fail
  refine (head31 _ HT.out.tabs).mono ?_
  rintro e v1 ⟨rfl, hb⟩
  have T1 := Lib.hid (HT.out.step hb)
  have M1 := Lib.hid (keep7 (by rw [HZ.out]; omega) hb HM1.out)
  have M2 := Lib.hid (keep7 (by rw [HZ.out]; omega) hb HM2.out)
  have l00 : w.heap.size + 1 < v1.heap.size := by have := hb.size; have := HZ.out; omega
  replace HL := Lib.hid (HL.out.step hb)
  clear hb HM1 HM2 HT HZ
  obtain ⟨a0, a1, a2, a3, a4, a5, a6⟩ := M1.out
  obtain ⟨b0, b1, b2, b3, b4, b5, b6⟩ := M2.out
  have hx := fun w h => Few_any [a, b] (some ⟨v1.heap.size, 0, none⟩) v1.heap.size 0 2 2 w (by show 2 ≤ 9223372036854775807; decide) h
  rw [f0] at hx
  have HX := Lib.hid hx
  have HA := Lib.hid (ents2_new v1 a b 63)
  have T2 := Lib.hid (T1.out.alloc (.cells #[.int .i64 a.house, .int .i64 a.seq, .int .i64 a.day, .string a.prev, .string a.body, .int .i64 a.r, .int .i64 a.s, .int .i64 b.house, .int .i64 b.seq, .int .i64 b.day, .string b.prev, .string b.body, .int .i64 b.r, .int .i64 b.s] 63))
  have hbx := alloc_below v1 (.cells #[.int .i64 a.house, .int .i64 a.seq, .int .i64 a.day, .string a.prev, .string a.body, .int .i64 a.r, .int .i64 a.s, .int .i64 b.house, .int .i64 b.seq, .int .i64 b.day, .string b.prev, .string b.body, .int .i64 b.r, .int .i64 b.s] 63)
  have M3 := Lib.hid (keep7 (by omega) hbx M1.out)
  have M4 := Lib.hid (keep7 l00 hbx M2.out)
  have l01 : w.heap.size + 1 < (v1.alloc (.cells #[.int .i64 a.house, .int .i64 a.seq, .int .i64 a.day, .string a.prev, .string a.body, .int .i64 a.r, .int .i64 a.s, .int .i64 b.house, .int .i64 b.seq, .int .i64 b.day, .string b.prev, .string b.body, .int .i64 b.r, .int .i64 b.s] 63)).heap.size := by simp; omega
  replace HL := Lib.hid (HL.out.step hbx)
  clear hx hbx
  go_wp2_with fail
  refine (HX.out _ HA.out).mono ?_
  rintro e wx ⟨rfl, rfl⟩
  clear HA a0 a1 a2 a3 a4 a5 a6 b0 b1 b2 b3 b4 b5 b6 M1 M2 T1 l00
  generalize v1.alloc (.cells #[.int .i64 a.house, .int .i64 a.seq, .int .i64 a.day, .string a.prev, .string a.body, .int .i64 a.r, .int .i64 a.s, .int .i64 b.house, .int .i64 b.seq, .int .i64 b.day, .string b.prev, .string b.body, .int .i64 b.r, .int .i64 b.s] 63) = v2 at *
  go_wp2_with fail
  have hx := Few_any l ao lb lo c 14 v2 nl HL.out
  rw [f1] at hx
  refine hx.mono ?_
  rintro e wx ⟨rfl, rfl⟩
  clear hx
  obtain ⟨a0, a1, a2, a3, a4, a5, a6⟩ := M3.out
  obtain ⟨b0, b1, b2, b3, b4, b5, b6⟩ := M4.out
  go_wp2_with fail
  go_ret
  exact ⟨rfl, T2.out.bel⟩
set_option maxHeartbeats 4000000 in
set_option maxRecDepth 100000 in
theorem nofork_bad (a b : Ent) (l : List Ent) (ao : Option Addr) (lb lo c : Nat) (ho y : Int) (w : World) (hl : EntsAt w ao lb lo l) (ht : Tabs w) (nl : l.length ≤ 9223372036854775807) (f0 : fewE [a, b] 2 = true) (f1 : fewE l 14 = true) (oa : a.Ok) (ob : b.Ok) (x1 x2 : Int) (hCL : ∀ w, EntsAt w ao lb lo l → Tabs w → Calls Tryd.prog 38 #[.slice ao l.length c, .int .i64 ho, .int .i64 y] w fun e w' => e = .returned (.tuple #[.int .i64 x1, .int .i64 x2]) ∧ Below w.heap.size w w') (e1 : (x1 == 0) = false) :
    Calls Tryd.prog 15 #[.agg #[.int .i64 a.house, .int .i64 a.seq, .int .i64 a.day, .string a.prev, .string a.body, .int .i64 a.r, .int .i64 a.s], .agg #[.int .i64 b.house, .int .i64 b.seq, .int .i64 b.day, .string b.prev, .string b.body, .int .i64 b.r, .int .i64 b.s], .slice ao l.length c, .int .i64 ho, .int .i64 y] w fun e w' => e = .returned (.bool true) ∧ Below w.heap.size w w' := by
  have hab := fun w ht => Fork_any a b y w oa ob ht
  have hba := fun w ht => Fork_any b a y w ob oa ht
  have haa := fun w ht => Fork_any a a y w oa oa ht
  rw [frkE_comm y b a] at hba
  rw [frkE_self] at haa
  generalize frkE y a b = fv at *
  have FAB := Lib.hid hab
  have FBA := Lib.hid hba
  have FAA := Lib.hid haa
  clear hab hba haa oa ob
  have CL := Lib.hid hCL
  clear hCL
  have e1' : (x1 != 0) = true := by simp only [bne, e1]; rfl
  obtain ⟨m1, m2, T, Z⟩ := two_boxes w a b ht
  have HM1 := Lib.hid m1
  have HM2 := Lib.hid m2
  have HT := Lib.hid T
  have HZ := Lib.hid Z
  have HL := Lib.hid (hl.step T.bel)
  clear m1 m2 T Z ht hl
  go_enter Tryd.func15, Tryd.ntmps15
  go_wp2_with fail
  refine (head31 _ HT.out.tabs).mono ?_
  rintro e v1 ⟨rfl, hb⟩
  have T1 := Lib.hid (HT.out.step hb)
  have M1 := Lib.hid (keep7 (by rw [HZ.out]; omega) hb HM1.out)
  have M2 := Lib.hid (keep7 (by rw [HZ.out]; omega) hb HM2.out)
  have l00 : w.heap.size + 1 < v1.heap.size := by have := hb.size; have := HZ.out; omega
  replace HL := Lib.hid (HL.out.step hb)
  clear hb HM1 HM2 HT HZ
  obtain ⟨a0, a1, a2, a3, a4, a5, a6⟩ := M1.out
  obtain ⟨b0, b1, b2, b3, b4, b5, b6⟩ := M2.out
  have hx := fun w h => Few_any [a, b] (some ⟨v1.heap.size, 0, none⟩) v1.heap.size 0 2 2 w (by show 2 ≤ 9223372036854775807; decide) h
  rw [f0] at hx
  have HX := Lib.hid hx
  have HA := Lib.hid (ents2_new v1 a b 63)
  have T2 := Lib.hid (T1.out.alloc (.cells #[.int .i64 a.house, .int .i64 a.seq, .int .i64 a.day, .string a.prev, .string a.body, .int .i64 a.r, .int .i64 a.s, .int .i64 b.house, .int .i64 b.seq, .int .i64 b.day, .string b.prev, .string b.body, .int .i64 b.r, .int .i64 b.s] 63))
  have hbx := alloc_below v1 (.cells #[.int .i64 a.house, .int .i64 a.seq, .int .i64 a.day, .string a.prev, .string a.body, .int .i64 a.r, .int .i64 a.s, .int .i64 b.house, .int .i64 b.seq, .int .i64 b.day, .string b.prev, .string b.body, .int .i64 b.r, .int .i64 b.s] 63)
  have M3 := Lib.hid (keep7 (by omega) hbx M1.out)
  have M4 := Lib.hid (keep7 l00 hbx M2.out)
  have l01 : w.heap.size + 1 < (v1.alloc (.cells #[.int .i64 a.house, .int .i64 a.seq, .int .i64 a.day, .string a.prev, .string a.body, .int .i64 a.r, .int .i64 a.s, .int .i64 b.house, .int .i64 b.seq, .int .i64 b.day, .string b.prev, .string b.body, .int .i64 b.r, .int .i64 b.s] 63)).heap.size := by simp; omega
  replace HL := Lib.hid (HL.out.step hbx)
  clear hx hbx
  go_wp2_with fail
  refine (HX.out _ HA.out).mono ?_
  rintro e wx ⟨rfl, rfl⟩
  clear HA a0 a1 a2 a3 a4 a5 a6 b0 b1 b2 b3 b4 b5 b6 M1 M2 T1 l00
  generalize v1.alloc (.cells #[.int .i64 a.house, .int .i64 a.seq, .int .i64 a.day, .string a.prev, .string a.body, .int .i64 a.r, .int .i64 a.s, .int .i64 b.house, .int .i64 b.seq, .int .i64 b.day, .string b.prev, .string b.body, .int .i64 b.r, .int .i64 b.s] 63) = v2 at *
  go_wp2_with fail
  have hx := Few_any l ao lb lo c 14 v2 nl HL.out
  rw [f1] at hx
  refine hx.mono ?_
  rintro e wx ⟨rfl, rfl⟩
  clear hx
  obtain ⟨a0, a1, a2, a3, a4, a5, a6⟩ := M3.out
  obtain ⟨b0, b1, b2, b3, b4, b5, b6⟩ := M4.out
  go_wp2_with fail
  have l01' : w.heap.size < v2.heap.size := by omega
  clear HX M3 M4
  cases fv
  all_goals
    have HINI := Lib.hid (ini_bx a0 a1 a2 a3 a4 a5 a6 b0 b1 b2 b3 b4 b5 b6 (Trk.start T2.out.tabs))
    clear a0 a1 a2 a3 a4 a5 a6 b0 b1 b2 b3 b4 b5 b6
    go_region_held_law (fun w' => w'.cell? ⟨w.heap.size, 0, none⟩ = some (.int .i64 a.house) ∧ w'.cell? ⟨w.heap.size, 1, none⟩ = some (.int .i64 a.seq) ∧ w'.cell? ⟨w.heap.size, 2, none⟩ = some (.int .i64 a.day) ∧ w'.cell? ⟨w.heap.size, 3, none⟩ = some (.string a.prev) ∧ w'.cell? ⟨w.heap.size, 4, none⟩ = some (.string a.body) ∧ w'.cell? ⟨w.heap.size, 5, none⟩ = some (.int .i64 a.r) ∧ w'.cell? ⟨w.heap.size, 6, none⟩ = some (.int .i64 a.s) ∧ w'.cell? ⟨w.heap.size + 1, 0, none⟩ = some (.int .i64 b.house) ∧ w'.cell? ⟨w.heap.size + 1, 1, none⟩ = some (.int .i64 b.seq) ∧ w'.cell? ⟨w.heap.size + 1, 2, none⟩ = some (.int .i64 b.day) ∧ w'.cell? ⟨w.heap.size + 1, 3, none⟩ = some (.string b.prev) ∧ w'.cell? ⟨w.heap.size + 1, 4, none⟩ = some (.string b.body) ∧ w'.cell? ⟨w.heap.size + 1, 5, none⟩ = some (.int .i64 b.r) ∧ w'.cell? ⟨w.heap.size + 1, 6, none⟩ = some (.int .i64 b.s) ∧ Trk v2 w') (first | (with_reducible assumption) | (with_reducible exact HINI.out) | (with_reducible refine keep_bx l01' l01 hba ?_; with_reducible assumption) | (with_reducible refine keep_bx l01' l01 hbb ?_; with_reducible assumption) | (with_reducible refine keep_bx l01' l01 hbc ?_; with_reducible assumption) | (refine keep_bx l01' l01 (drewN_below _ 1) ?_; first | (with_reducible assumption) | (with_reducible exact HINI.out))) (first | (go_at_call 45; with_reducible refine (FAB.out _ ?TT).mono ?_; (case TT => exact (by first | exact (held_bx (by assumption)).tabs | exact T2.out.tabs | exact T2.out.tabs.drew)); rintro e wa ⟨rfl, hba⟩) | (go_at_call 45; with_reducible refine (FBA.out _ ?TT).mono ?_; (case TT => exact (by first | exact (held_bx (by assumption)).tabs | exact T2.out.tabs | exact T2.out.tabs.drew)); rintro e wa ⟨rfl, hbb⟩) | (go_at_call 45; with_reducible refine (FAA.out _ ?TT).mono ?_; (case TT => exact (by first | exact (held_bx (by assumption)).tabs | exact T2.out.tabs | exact T2.out.tabs.drew)); rintro e wa ⟨rfl, hbc⟩))
    all_goals
      have HFF := Lib.hid (held_bx (n0 := w.heap.size) (n1 := w.heap.size + 1) (a := a) (b := b) (w0 := v2) (by assumption))
      have T3 := Lib.hid (Trk.mk HFF.out.tabs (T2.out.bel.trans (HFF.out.bel.mono T2.out.bel.size)))
      replace HL := Lib.hid (HL.out.step HFF.out.bel)
      clear HFF
      go_wp2_with fail
      refine (CL.out _ HL.out T3.out.tabs).mono ?_
      rintro e v3 ⟨rfl, hb⟩
      have T4 := Lib.hid (T3.out.step hb)
      replace HL := Lib.hid (HL.out.step hb)
      clear hb
      go_wp2_with fail
      go_ret
      exact ⟨rfl, T4.out.bel⟩
set_option maxHeartbeats 4000000 in
set_option maxRecDepth 100000 in
theorem nofork_main (a b : Ent) (l : List Ent) (ao : Option Addr) (lb lo c : Nat) (ho y : Int) (w : World) (hl : EntsAt w ao lb lo l) (ht : Tabs w) (nl : l.length ≤ 9223372036854775807) (f0 : fewE [a, b] 2 = true) (f1 : fewE l 14 = true) (oa : a.Ok) (ob : b.Ok) (hCL : ∀ w, EntsAt w ao lb lo l → Tabs w → Calls Tryd.prog 38 #[.slice ao l.length c, .int .i64 ho, .int .i64 y] w fun e w' => e = .returned (.tuple #[.int .i64 0, .int .i64 (-1)]) ∧ Below w.heap.size w w') (hF : ∀ (j k : Nat) p q, l[j]? = some p → l[k]? = some q → p.Ok ∧ q.Ok ∧ frkE y p q = false) :
    Calls Tryd.prog 15 #[.agg #[.int .i64 a.house, .int .i64 a.seq, .int .i64 a.day, .string a.prev, .string a.body, .int .i64 a.r, .int .i64 a.s], .agg #[.int .i64 b.house, .int .i64 b.seq, .int .i64 b.day, .string b.prev, .string b.body, .int .i64 b.r, .int .i64 b.s], .slice ao l.length c, .int .i64 ho, .int .i64 y] w fun e w' => e = .returned (.bool true) ∧ Below w.heap.size w w' := by
  have hab := fun w ht => Fork_any a b y w oa ob ht
  have hba := fun w ht => Fork_any b a y w ob oa ht
  have haa := fun w ht => Fork_any a a y w oa oa ht
  rw [frkE_comm y b a] at hba
  rw [frkE_self] at haa
  generalize frkE y a b = fv at *
  have FAB := Lib.hid hab
  have FBA := Lib.hid hba
  have FAA := Lib.hid haa
  clear hab hba haa oa ob
  have CL := Lib.hid hCL
  clear hCL
  have HFK := Lib.hid hF
  clear hF
  obtain ⟨m1, m2, T, Z⟩ := two_boxes w a b ht
  have HM1 := Lib.hid m1
  have HM2 := Lib.hid m2
  have HT := Lib.hid T
  have HZ := Lib.hid Z
  have HL := Lib.hid (hl.step T.bel)
  clear m1 m2 T Z ht hl
  go_enter Tryd.func15, Tryd.ntmps15
  go_wp2_with fail
  refine (head31 _ HT.out.tabs).mono ?_
  rintro e v1 ⟨rfl, hb⟩
  have T1 := Lib.hid (HT.out.step hb)
  have M1 := Lib.hid (keep7 (by rw [HZ.out]; omega) hb HM1.out)
  have M2 := Lib.hid (keep7 (by rw [HZ.out]; omega) hb HM2.out)
  have l00 : w.heap.size + 1 < v1.heap.size := by have := hb.size; have := HZ.out; omega
  replace HL := Lib.hid (HL.out.step hb)
  clear hb HM1 HM2 HT HZ
  obtain ⟨a0, a1, a2, a3, a4, a5, a6⟩ := M1.out
  obtain ⟨b0, b1, b2, b3, b4, b5, b6⟩ := M2.out
  have hx := fun w h => Few_any [a, b] (some ⟨v1.heap.size, 0, none⟩) v1.heap.size 0 2 2 w (by show 2 ≤ 9223372036854775807; decide) h
  rw [f0] at hx
  have HX := Lib.hid hx
  have HA := Lib.hid (ents2_new v1 a b 63)
  have T2 := Lib.hid (T1.out.alloc (.cells #[.int .i64 a.house, .int .i64 a.seq, .int .i64 a.day, .string a.prev, .string a.body, .int .i64 a.r, .int .i64 a.s, .int .i64 b.house, .int .i64 b.seq, .int .i64 b.day, .string b.prev, .string b.body, .int .i64 b.r, .int .i64 b.s] 63))
  have hbx := alloc_below v1 (.cells #[.int .i64 a.house, .int .i64 a.seq, .int .i64 a.day, .string a.prev, .string a.body, .int .i64 a.r, .int .i64 a.s, .int .i64 b.house, .int .i64 b.seq, .int .i64 b.day, .string b.prev, .string b.body, .int .i64 b.r, .int .i64 b.s] 63)
  have M3 := Lib.hid (keep7 (by omega) hbx M1.out)
  have M4 := Lib.hid (keep7 l00 hbx M2.out)
  have l01 : w.heap.size + 1 < (v1.alloc (.cells #[.int .i64 a.house, .int .i64 a.seq, .int .i64 a.day, .string a.prev, .string a.body, .int .i64 a.r, .int .i64 a.s, .int .i64 b.house, .int .i64 b.seq, .int .i64 b.day, .string b.prev, .string b.body, .int .i64 b.r, .int .i64 b.s] 63)).heap.size := by simp; omega
  replace HL := Lib.hid (HL.out.step hbx)
  clear hx hbx
  go_wp2_with fail
  refine (HX.out _ HA.out).mono ?_
  rintro e wx ⟨rfl, rfl⟩
  clear HA a0 a1 a2 a3 a4 a5 a6 b0 b1 b2 b3 b4 b5 b6 M1 M2 T1 l00
  generalize v1.alloc (.cells #[.int .i64 a.house, .int .i64 a.seq, .int .i64 a.day, .string a.prev, .string a.body, .int .i64 a.r, .int .i64 a.s, .int .i64 b.house, .int .i64 b.seq, .int .i64 b.day, .string b.prev, .string b.body, .int .i64 b.r, .int .i64 b.s] 63) = v2 at *
  go_wp2_with fail
  have hx := Few_any l ao lb lo c 14 v2 nl HL.out
  rw [f1] at hx
  refine hx.mono ?_
  rintro e wx ⟨rfl, rfl⟩
  clear hx
  obtain ⟨a0, a1, a2, a3, a4, a5, a6⟩ := M3.out
  obtain ⟨b0, b1, b2, b3, b4, b5, b6⟩ := M4.out
  go_wp2_with fail
  have l01' : w.heap.size < v2.heap.size := by omega
  clear HX M3 M4
  cases fv
  all_goals
    have HINI := Lib.hid (ini_bx a0 a1 a2 a3 a4 a5 a6 b0 b1 b2 b3 b4 b5 b6 (Trk.start T2.out.tabs))
    clear a0 a1 a2 a3 a4 a5 a6 b0 b1 b2 b3 b4 b5 b6
    go_region_held_law (fun w' => w'.cell? ⟨w.heap.size, 0, none⟩ = some (.int .i64 a.house) ∧ w'.cell? ⟨w.heap.size, 1, none⟩ = some (.int .i64 a.seq) ∧ w'.cell? ⟨w.heap.size, 2, none⟩ = some (.int .i64 a.day) ∧ w'.cell? ⟨w.heap.size, 3, none⟩ = some (.string a.prev) ∧ w'.cell? ⟨w.heap.size, 4, none⟩ = some (.string a.body) ∧ w'.cell? ⟨w.heap.size, 5, none⟩ = some (.int .i64 a.r) ∧ w'.cell? ⟨w.heap.size, 6, none⟩ = some (.int .i64 a.s) ∧ w'.cell? ⟨w.heap.size + 1, 0, none⟩ = some (.int .i64 b.house) ∧ w'.cell? ⟨w.heap.size + 1, 1, none⟩ = some (.int .i64 b.seq) ∧ w'.cell? ⟨w.heap.size + 1, 2, none⟩ = some (.int .i64 b.day) ∧ w'.cell? ⟨w.heap.size + 1, 3, none⟩ = some (.string b.prev) ∧ w'.cell? ⟨w.heap.size + 1, 4, none⟩ = some (.string b.body) ∧ w'.cell? ⟨w.heap.size + 1, 5, none⟩ = some (.int .i64 b.r) ∧ w'.cell? ⟨w.heap.size + 1, 6, none⟩ = some (.int .i64 b.s) ∧ Trk v2 w') (first | (with_reducible assumption) | (with_reducible exact HINI.out) | (with_reducible refine keep_bx l01' l01 hba ?_; with_reducible assumption) | (with_reducible refine keep_bx l01' l01 hbb ?_; with_reducible assumption) | (with_reducible refine keep_bx l01' l01 hbc ?_; with_reducible assumption) | (refine keep_bx l01' l01 (drewN_below _ 1) ?_; first | (with_reducible assumption) | (with_reducible exact HINI.out))) (first | (go_at_call 45; with_reducible refine (FAB.out _ ?TT).mono ?_; (case TT => exact (by first | exact (held_bx (by assumption)).tabs | exact T2.out.tabs | exact T2.out.tabs.drew)); rintro e wa ⟨rfl, hba⟩) | (go_at_call 45; with_reducible refine (FBA.out _ ?TT).mono ?_; (case TT => exact (by first | exact (held_bx (by assumption)).tabs | exact T2.out.tabs | exact T2.out.tabs.drew)); rintro e wa ⟨rfl, hbb⟩) | (go_at_call 45; with_reducible refine (FAA.out _ ?TT).mono ?_; (case TT => exact (by first | exact (held_bx (by assumption)).tabs | exact T2.out.tabs | exact T2.out.tabs.drew)); rintro e wa ⟨rfl, hbc⟩))
    all_goals
      have HFF := Lib.hid (held_bx (n0 := w.heap.size) (n1 := w.heap.size + 1) (a := a) (b := b) (w0 := v2) (by assumption))
      have T3 := Lib.hid (Trk.mk HFF.out.tabs (T2.out.bel.trans (HFF.out.bel.mono T2.out.bel.size)))
      replace HL := Lib.hid (HL.out.step HFF.out.bel)
      clear HFF
      go_wp2_with fail
      refine (CL.out _ HL.out T3.out.tabs).mono ?_
      rintro e v3 ⟨rfl, hb⟩
      have T4 := Lib.hid (T3.out.step hb)
      replace HL := Lib.hid (HL.out.step hb)
      clear hb
      go_wp2_with fail
      go_loopg [14] l.length (fun gk i wr => ∃ j, j + gk = l.length ∧ i = .int .i64 (j : Nat) ∧ Trk w wr ∧ Below v3.heap.size v3 wr)
      case atStart => exact ⟨0, by omega, rfl, T4.out, Below.refl _ _⟩
      case round =>
        obtain ⟨j, hj, rfl, tr, br⟩ := hrel
        have T4 := Lib.hid tr
        have B4 := Lib.hid br
        clear tr br
        have i1 : (0 : Int) ≤ (j : Int) := by omega
        by_cases hlt : j < l.length
        · have i2 : (j : Int) < (l.length : Int) := by omega
          go_wp2_with fail
          go_loopg [15] l.length (fun gk i wr => ∃ k, k + gk = l.length ∧ i = .int .i64 (k : Nat) ∧ Trk w wr ∧ Below v3.heap.size v3 wr)
          case atStart => exact ⟨0, by omega, rfl, T4.out, B4.out⟩
          case round =>
            obtain ⟨k, hk, rfl, tr, br⟩ := hrel
            have T5 := Lib.hid tr
            have B5 := Lib.hid br
            have L5 := Lib.hid (HL.out.step br)
            clear tr br
            by_cases hlk : k < l.length
            · obtain ⟨p, hp⟩ : ∃ p, l[j]? = some p := ⟨_, List.getElem?_eq_getElem (by omega)⟩
              obtain ⟨q, hq⟩ : ∃ q, l[k]? = some q := ⟨_, List.getElem?_eq_getElem (by omega)⟩
              obtain ⟨rfl, la⟩ := L5.out.ao (by omega)
              have A5 := Lib.hid (L5.out.at_ j p hp)
              have C5 := Lib.hid (L5.out.at_ k q hq)
              obtain ⟨op, oq, hz⟩ := HFK.out j k p q hp hq
              have FJK := Lib.hid (fun w ht => Fork_any p q y w op oq ht)
              rw [hz] at FJK
              have i3 : (0 : Int) ≤ (k : Int) := by omega
              have i4 : (k : Int) < (l.length : Int) := by omega
              have hjn : j < l.length := hlt
              clear hp hq hz op oq
              obtain ⟨a0, a1, a2, a3, a4, a5, a6⟩ := A5.out
              obtain ⟨b0, b1, b2, b3, b4, b5, b6⟩ := C5.out
              clear HFK HL CL L5 A5 C5 FAB FBA FAA HINI T2 T3
              go_wp2_with fail
              have hgen := T5.out
              generalize wr = w5 at *
              have HINI := Lib.hid (ini_nf a0 a1 a2 a3 a4 a5 a6 b0 b1 b2 b3 b4 b5 b6 (Trk.start T5.out.tabs))
              clear a0 a1 a2 a3 a4 a5 a6 b0 b1 b2 b3 b4 b5 b6
              go_region_held_law (fun w' => w'.cell? ⟨lb, lo + j * 7, none⟩ = some (.int .i64 p.house) ∧ w'.cell? ⟨lb, lo + j * 7 + 1, none⟩ = some (.int .i64 p.seq) ∧ w'.cell? ⟨lb, lo + j * 7 + 2, none⟩ = some (.int .i64 p.day) ∧ w'.cell? ⟨lb, lo + j * 7 + 3, none⟩ = some (.string p.prev) ∧ w'.cell? ⟨lb, lo + j * 7 + 4, none⟩ = some (.string p.body) ∧ w'.cell? ⟨lb, lo + j * 7 + 5, none⟩ = some (.int .i64 p.r) ∧ w'.cell? ⟨lb, lo + j * 7 + 6, none⟩ = some (.int .i64 p.s) ∧ w'.cell? ⟨lb, lo + k * 7, none⟩ = some (.int .i64 q.house) ∧ w'.cell? ⟨lb, lo + k * 7 + 1, none⟩ = some (.int .i64 q.seq) ∧ w'.cell? ⟨lb, lo + k * 7 + 2, none⟩ = some (.int .i64 q.day) ∧ w'.cell? ⟨lb, lo + k * 7 + 3, none⟩ = some (.string q.prev) ∧ w'.cell? ⟨lb, lo + k * 7 + 4, none⟩ = some (.string q.body) ∧ w'.cell? ⟨lb, lo + k * 7 + 5, none⟩ = some (.int .i64 q.r) ∧ w'.cell? ⟨lb, lo + k * 7 + 6, none⟩ = some (.int .i64 q.s) ∧ Trk w5 w') (first | (with_reducible assumption) | (with_reducible exact HINI.out) | (with_reducible refine keep_nf la hba ?_; with_reducible assumption) | (refine keep_nf la (drewN_below _ 1) ?_; first | (with_reducible assumption) | (with_reducible exact HINI.out))) (first | (go_at_call 45; with_reducible refine (FJK.out _ ?TT).mono ?_; (case TT => exact (by first | exact (held_nf (by assumption)).tabs | exact T5.out.tabs | exact T5.out.tabs.drew)); rintro e wa ⟨rfl, hba⟩))
              all_goals
                have HFF := Lib.hid (held_nf (n0 := lb) (o0 := lo + j * 7) (o1 := lo + k * 7) (a := p) (b := q) (w0 := w5) (by assumption))
                go_wp2_with fail
                go_roundg (gk - 1)
                case measure => omega
                case rel => exact ⟨k + 1, by omega, by go_num, ⟨HFF.out.tabs, T5.out.bel.trans (HFF.out.bel.mono T5.out.bel.size)⟩, B5.out.trans (HFF.out.bel.mono B5.out.size)⟩
            · obtain rfl : k = l.length := by omega
              go_wp2_with fail
              go_roundg (l.length - j - 1)
              case measure => omega
              case rel => exact ⟨j + 1, by omega, by go_num, T5.out, B5.out⟩
        · obtain rfl : j = l.length := by omega
          go_wp2_with fail
          go_ret
          exact ⟨rfl, T4.out.bel⟩
theorem law_ChainNoFork (a b : Ent) (l : List Ent) (ao : Option Addr) (lb lo c : Nat) (ho y : Int) (w : World) (ia : a.I) (ib : b.I) (hl : EntsAt w ao lb lo l) (il : ∀ e ∈ l, e.I) (nl : l.length ≤ 9223372036854775807) (_ : (Lit.int .i64 ho).wf = true) (_ : (Lit.int .i64 y).wf = true) (ht : Tabs w) :
    Calls Tryd.prog 15 #[.agg #[.int .i64 a.house, .int .i64 a.seq, .int .i64 a.day, .string a.prev, .string a.body, .int .i64 a.r, .int .i64 a.s], .agg #[.int .i64 b.house, .int .i64 b.seq, .int .i64 b.day, .string b.prev, .string b.body, .int .i64 b.r, .int .i64 b.s], .slice ao l.length c, .int .i64 ho, .int .i64 y] w fun e w' => e = .returned (.bool true) ∧ Below w.heap.size w w' := by
  rcases f0 : fewE [a, b] 2 with _ | _
  · exact nofork_few1 a b l ao lb lo c ho y w hl ht f0
  rcases f1 : fewE l 14 with _ | _
  · exact nofork_few2 a b l ao lb lo c ho y w hl ht nl f0 f1
  have l1 := few_len f1
  have ol := few_ok f1 il
  obtain ⟨⟨k1, k2⟩, k3, k4⟩ := few2 f0
  have oa := ia.ok k1 k2
  have ob := ib.ok k3 k4
  have hCL := fun w h ht => Check_any ho y l ao lb lo c w (by omega) ol h ht
  by_cases g1 : (chkE ho y l).1 = 0
  · have k1 := chkE_good g1
    rw [chkE_of k1.1 k1.2] at hCL
    exact nofork_main a b l ao lb lo c ho y w hl ht nl f0 f1 oa ob hCL (fun j k p q hp hq => ⟨ol p (List.mem_of_getElem? hp), ol q (List.mem_of_getElem? hq), chain_nofork g1 hp hq⟩)
  · exact nofork_bad a b l ao lb lo c ho y w hl ht nl f0 f1 oa ob _ _ hCL (by simpa using g1)
end Go.Proofs.YtpdbcahiipbhnaaDoor
