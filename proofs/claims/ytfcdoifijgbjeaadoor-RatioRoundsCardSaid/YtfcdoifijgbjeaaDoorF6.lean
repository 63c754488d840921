/- Layer 01: two ratios compared, as one equation. -/
import Derived.Test.YtfcdoifijgbjeaaDoorF4
namespace Go.Proofs.YtfcdoifijgbjeaaDoor
open Go.RowKit

theorem run_eql_ratio (w : World) (a b c d : Int) :
    (binOp .eql 25 (.agg #[.int .i64 a, .int .i64 b]) (.agg #[.int .i64 c, .int .i64 d])).run Tryd.prog w = .ok (.bool (a == c && b == d)) w := by
  by_cases h1 : a = c
  · by_cases h2 : b = d
    · subst h1 h2
      go_simp
    · subst h1
      go_simp
  · go_simp
end Go.Proofs.YtfcdoifijgbjeaaDoor
