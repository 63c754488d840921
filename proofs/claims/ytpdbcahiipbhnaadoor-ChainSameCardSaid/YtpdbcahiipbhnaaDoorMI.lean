/- Layer 31: the numbers of an entry that came in. -/
import Derived.Test.YtpdbcahiipbhnaaDoorM7
namespace Go.Proofs.YtpdbcahiipbhnaaDoor
open Go.RowKit

theorem few2 {a b : Ent} (h : fewE [a, b] 2 = true) : (a.prev.size ≤ 100 ∧ a.body.size ≤ 2100) ∧ (b.prev.size ≤ 100 ∧ b.body.size ≤ 2100) := by
  have h2 := (fewE_iff.1 h).2
  exact ⟨h2 a (by simp), h2 b (by simp)⟩
/-- An entry's numbers are integers of Go's. -/
structure Ent.I (e : Ent) : Prop where
  house : I64 e.house
  seq : I64 e.seq
  day : I64 e.day
  r : I64 e.r
  s : I64 e.s
theorem Ent.I.ok {e : Ent} (h : e.I) (h1 : e.prev.size ≤ 100) (h2 : e.body.size ≤ 2100) : e.Ok := ⟨h.house, h.seq, h.day, h.r, h.s, by omega, by omega⟩
end Go.Proofs.YtpdbcahiipbhnaaDoor
