/- A signature as an argument, opened and shut. -/
import Derived.Test.YtgjefmhobfdjdaaDoorFrame
import Derived.Lib.SmallJoins
namespace Go.Proofs.YtgjefmhobfdjdaaDoor
open Go.ChangeShapes Go.WideShapes Go.ChangeAt Go.RowKit Go.Joins

theorem open_sig {H : Type} {enc : TypeId × Value → H} {w : World} {base b0 : Nat} {spare : Nat → Bool} {held : Bool} {r : Reach} {v : Value} {d : DataW H} {ps : List MemPlace}
    (hval : Value.okWide Tryd.prog w r b0 32 v) (hd : DataW.Trod enc Tryd.prog w base spare held 32 v d ps) :
    ∃ a b, v = .agg #[.int .i64 a, .int .i64 b] ∧ d = .agg [.lit (.int .i64 a), .lit (.int .i64 b)] ∧ ps = [] ∧ (Lit.int .i64 a).wf = true ∧ (Lit.int .i64 b).wf = true := by
  obtain ⟨v0, v1, y0, y1, n, rfl, rfl, rfl, h0, h1⟩ := open_agg2 Tryd.underlying32 (by kernel_rfl) (by kernel_rfl) hval hd
  obtain ⟨a, ha, hx, hw⟩ := DataW.trod_int Tryd.underlying3 h0
  obtain ⟨b, hb, hy, hw'⟩ := DataW.trod_int Tryd.underlying3 h1
  simp only [List.cons.injEq, and_true] at ha hb
  subst ha hb hx hy
  exact ⟨a, b, rfl, rfl, rfl, hw, hw'⟩
theorem shut_sig {H : Type} {enc : TypeId × Value → H} {w : World} {base : Nat} {spare : Nat → Bool} {held : Bool} {a b : Int} (ha : (Lit.int .i64 a).wf = true) (hb : (Lit.int .i64 b).wf = true) :
    DataW.Trod enc Tryd.prog w base spare held 32 (.agg #[.int .i64 a, .int .i64 b]) (.agg [.lit (.int .i64 a), .lit (.int .i64 b)]) [] :=
  shut_agg2 (y0 := (.lit (.int .i64 a), [])) (y1 := (.lit (.int .i64 b), [])) Tryd.underlying32 (by kernel_rfl) (by kernel_rfl)
    ⟨1, by simp [DataW.trod, Tryd.underlying3, ha]⟩ ⟨1, by simp [DataW.trod, Tryd.underlying3, hb]⟩
end Go.Proofs.YtgjefmhobfdjdaaDoor
