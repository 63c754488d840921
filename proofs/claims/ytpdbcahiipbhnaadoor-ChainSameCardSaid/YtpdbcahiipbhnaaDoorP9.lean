/- Layer 29: the laws' head. -/
import Derived.Test.YtpdbcahiipbhnaaDoorP8
namespace Go.Proofs.YtpdbcahiipbhnaaDoor
open Go.RowKit

theorem Public_is (x y : Nat) (w : World) (h1 : 1 ≤ x) (h2 : x < 2147483646) (h : pw 7 x = y) :
    Calls Tryd.prog 47 #[.int .i64 x] w fun e w' => e = .returned (.tuple #[.int .i64 y, .int .i64 0]) ∧ w = w' := h ▸ Public_ok x w h1 h2
theorem Power_is (b n : Int) (y : Int) (w : World) (hn : n ≤ 9223372036854775807) (h : pwI b n = y) :
    Calls Tryd.prog 81 #[.int .i64 b, .int .i64 n] w fun e w' => e = .returned (.int .i64 y) ∧ w = w' := h ▸ Power_any b n w hn
theorem Verify_is (y r s : Int) (t : ByteArray) (b : Bool) (w : World) (ht : t.size ≤ 100000) (htab : Tabs w) (h : verB y r s t = b) :
    Calls Tryd.prog 48 #[.int .i64 y, .string t, .agg #[.int .i64 r, .int .i64 s]] w fun e w' => e = .returned (.bool b) ∧ Below w.heap.size w w' := h ▸ Verify_any y r s t w ht htab

theorem head_sig (t : ByteArray) (ht : t.size ≤ 100000) : ∃ R S : Nat, R < 2147483647 ∧ S < 2147483646 ∧
    (∀ w, Tabs w → Calls Tryd.prog 75 #[.int .i64 5, .string t] w fun e w' => e = .returned (.tuple #[.agg #[.int .i64 R, .int .i64 S], .int .i64 0]) ∧ Below w.heap.size w w') ∧
    verB 16807 R S t = true ∧ verB 16807 R ((S : Int) + 1) t = false ∧ verB 0 R S t = false := by
  have hv := ver_sign 5 t
  rw [pw7_five] at hv
  exact ⟨pw 7 (kay 5 t), sgS 5 t, pw_lt _ _, by unfold sgS; omega, fun w h => Sign_ok 5 t w (by omega) (by omega) ht h, hv, ver_false hv (by omega), verB_out (by omega)⟩

end Go.Proofs.YtpdbcahiipbhnaaDoor
