/- Layer 31: the reference's Same and decimal. -/
import Derived.Test.YtpdbcahiipbhnaaDoorMV
import Derived.Deep.QuietTactic
namespace Go.Proofs.YtpdbcahiipbhnaaDoor
open Go.RowKit

set_option maxHeartbeats 2000000 in
set_option maxRecDepth 100000 in
/-- Same, at two lists that hold the same entries. -/
theorem Same_yes (l : List Ent) (ao bo : Option Addr) (lb lo c mb mo d : Nat) (w : World) (nl : l.length ≤ 9223372036854775807) (hl : EntsAt w ao lb lo l) (hm : EntsAt w bo mb mo l) :
    Calls Tryd.prog 42 #[.slice ao l.length c, .slice bo l.length d] w fun e w' => e = .returned (.bool true) ∧ Below w.heap.size w w' := by
  have HL := Lib.hid hl
  have HM := Lib.hid hm
  clear hl hm
  go_enter Tryd.func42, Tryd.ntmps42
  go_wp2_with fail
  go_loopg [5] l.length (fun gk i wr => ∃ k, k + gk = l.length ∧ i = .int .i64 (k : Nat) ∧ Below w.heap.size w wr)
  case atStart => exact ⟨0, by omega, rfl, Below.refl _ _⟩
  case round =>
    obtain ⟨k, hk, rfl, br⟩ := hrel
    have B4 := Lib.hid br
    have L4 := Lib.hid (HL.out.step br)
    have M4 := Lib.hid (HM.out.step br)
    clear br
    by_cases hlt : k < l.length
    · obtain ⟨a, ha⟩ : ∃ a, l[k]? = some a := ⟨_, List.getElem?_eq_getElem (by omega)⟩
      obtain ⟨rfl, la⟩ := L4.out.ao (by omega)
      obtain ⟨rfl, lc⟩ := M4.out.ao (by omega)
      have A4 := Lib.hid (L4.out.at_ k a ha)
      have C4 := Lib.hid (M4.out.at_ k a ha)
      have hq := run_neq_ent a a
      rw [eqE_self] at hq
      have i1 : (0 : Int) ≤ (k : Int) := by omega
      have i3 : k < l.length := by omega
      have i5 : (k : Int) < (l.length : Int) := by omega
      clear ha
      obtain ⟨a0, a1, a2, a3, a4, a5, a6⟩ := A4.out
      obtain ⟨b0, b1, b2, b3, b4, b5, b6⟩ := C4.out
      go_wp2_with fail
      go_quiet (fail)
      go_wp2_with fail
      go_roundg (gk - 1)
      case measure => omega
      case rel => exact ⟨k + 1, by omega, by go_num, B4.out.trans ((drewN_below wr nq).mono B4.out.size)⟩
    · have i5 : ¬ (k : Int) < (l.length : Int) := by omega
      go_wp2_with fail
      go_ret
      exact ⟨rfl, B4.out⟩
end Go.Proofs.YtpdbcahiipbhnaaDoor
