/- Layer 01: magnitudes and the greatest common divisor. -/
import Derived.Test.YtfcdoifijgbjeaaDoorE0
import Derived.Test.YtfcdoifijgbjeaaDoorLib
import Derived.Test.YtfcdoifijgbjeaaDoorChecked
import Derived.WalkKit
import Derived.Lib.Hide
import Derived.IntWalk
import Derived.Below
import Derived.Deep.QuietTactic
import Derived.BigQuiet
import Derived.Deep.LoopGhost
namespace Go.Proofs.YtfcdoifijgbjeaaDoor
open Go.RowKit

theorem wrap_u64_in {x : Int} (h1 : 0 ≤ x) (h2 : x < 18446744073709551616) : IntKind.u64.wrap x = x := by
  rw [IntKind.wrap_u64]; omega

set_option maxHeartbeats 400000 in
theorem mag_any (n : Int) (w : World) (h1 : -9223372036854775808 ≤ n) (h2 : n ≤ 9223372036854775807) :
    Calls Tryd.prog 38 #[.int .i64 n] w fun e w' => e = .returned (.int .u64 (n.natAbs : Nat)) ∧ w = w' := by
  by_cases h : n < 0
  · have e1 : IntKind.u64.wrap n = n + 18446744073709551616 := by rw [IntKind.wrap_u64]; omega
    have e2 : IntKind.u64.wrap (-(n + 18446744073709551616)) = (n.natAbs : Nat) := by rw [IntKind.wrap_u64]; omega
    clear h1 h2
    go_enter Tryd.func38, Tryd.ntmps38
    go_wp2
    go_ret
    exact ⟨by first | rfl | rw [e2], rfl⟩
  · have e1 : IntKind.u64.wrap n = n := by rw [IntKind.wrap_u64]; omega
    have e2 : ((n.natAbs : Nat) : Int) = n := by omega
    clear h1 h2
    rw [e2]
    clear e2
    go_enter Tryd.func38, Tryd.ntmps38
    go_wp2
    go_ret
    exact ⟨by rfl, rfl⟩

/-- A round of Euclid's algorithm. -/
theorem gcd_round (g x : Nat) : Nat.gcd x (g % x) = Nat.gcd g x := by rw [Nat.gcd_comm g x, Nat.gcd_rec x g, Nat.gcd_comm]
theorem rem_facts {g x : Nat} (hg : g < 18446744073709551616) : ((g : Int).tmod (x : Int) = ((g % x : Nat) : Int)) ∧ IntKind.u64.wrap ((g % x : Nat) : Int) = ((g % x : Nat) : Int) := by
  constructor
  · rw [Int.tmod_eq_emod_of_nonneg (by omega)]; rfl
  · have : g % x ≤ g := Nat.mod_le _ _
    exact wrap_u64_in (by omega) (by omega)

/-- The divisor so far. -/
@[irreducible] def gAt (x y k : Nat) : Nat := if k = 0 then 0 else if k = 1 then x else Nat.gcd x y
theorem gAt0 (x y : Nat) : gAt x y 0 = 0 := by unfold gAt; rfl
theorem gAt1 (x y : Nat) : gAt x y 1 = x := by unfold gAt; rfl
theorem gAt2 (x y : Nat) : gAt x y 2 = Nat.gcd x y := by unfold gAt; rfl

set_option maxHeartbeats 1000000 in
theorem common_any (x y : Nat) (a b : Nat) (w : World) (hx : x < 18446744073709551616) (hy : y < 18446744073709551616)
    (c0 : w.cell? ⟨a, b, none⟩ = some (.int .u64 x)) (c1 : w.cell? ⟨a, b + 1, none⟩ = some (.int .u64 y)) :
    Calls Tryd.prog 39 #[.slice (some ⟨a, b, none⟩) 2 2] w fun e w' => e = .returned (.int .u64 (Nat.gcd x y : Nat)) ∧ ∃ m, w' = w.drewN m := by
  have HX := Lib.hid hx
  have HY := Lib.hid hy
  have HC0 := Lib.hid c0
  have HC1 := Lib.hid c1
  clear hx hy c0 c1
  go_enter Tryd.func39, Tryd.ntmps39
  go_wp2_with fail
  go_loopg [3, 8] 2 (fun gk g i wr => ∃ k : Nat, k + gk = 2 ∧ i = .int .i64 (k : Nat) ∧ g = .int .u64 (gAt x y k : Nat) ∧ ∃ m, wr = w.drewN m)
  case atStart => exact ⟨0, by omega, rfl, by rw [gAt0]; rfl, 0, rfl⟩
  case round =>
    obtain ⟨k, hk, rfl, rfl, m, rfl⟩ := hrel
    by_cases hlt : k < 2
    · -- an element
      obtain ⟨z0, hz, hc, hgz⟩ : ∃ z : Nat, z < 18446744073709551616 ∧ w.cell? ⟨a, b + k, none⟩ = some (.int .u64 z) ∧ Nat.gcd z (gAt x y k) = gAt x y (k + 1) ∧ gAt x y k < 18446744073709551616 := by
        match k, hlt with
        | 0, _ => exact ⟨x, HX.out, HC0.out, by rw [gAt0, gAt1, Nat.gcd_zero_right], by rw [gAt0]; omega⟩
        | 1, _ => exact ⟨y, HY.out, HC1.out, by rw [gAt1, gAt2, Nat.gcd_comm], by rw [gAt1]; exact HX.out⟩
      obtain ⟨hgz, hg⟩ := hgz
      have HGZ := Lib.hid hgz
      have HZ := Lib.hid hz
      have HG := Lib.hid hg
      generalize gAt x y k = g0 at *
      clear hgz hz hg
      have hlt' : (k : Int) < 2 := by omega
      go_wp2_with fail
      go_loopg [3, 5] z0 (fun gk g z wr => ∃ G : Nat, z = .int .u64 (gk : Nat) ∧ g = .int .u64 (G : Nat) ∧ gk < 18446744073709551616 ∧ G < 18446744073709551616 ∧ Nat.gcd gk G = Nat.gcd z0 g0 ∧ ∃ m, wr = w.drewN m)
      case atStart => exact ⟨g0, rfl, rfl, HZ.out, HG.out, rfl, m, rfl⟩
      case round =>
        obtain ⟨G, rfl, rfl, hz, hg, he, m', rfl⟩ := hrel
        have HE := Lib.hid he
        have HG' := Lib.hid hg
        obtain ⟨f1, f2⟩ := rem_facts (g := G) (x := gk) hg
        have hr := gcd_round G gk
        have HR : Hid (Nat.gcd (G % gk) gk = Nat.gcd gk G) := Lib.hid (by rw [Nat.gcd_comm, hr, Nat.gcd_comm])
        have HZ' := Lib.hid hz
        clear he hg hz hr
        by_cases h0 : gk = 0
        · subst h0
          have hf : G = gAt x y (k + 1) := by
            have h1 := HE.out
            rw [HGZ.out, Nat.gcd_zero_left] at h1
            exact h1
          clear f1 f2
          go_wp2_with fail
          go_roundg (2 - (k + 1))
          case measure => omega
          case rel => exact ⟨k + 1, by omega, by go_num, by rw [hf], m', rfl⟩
        · have hb : ((gk : Int) == 0) = false := by simp; omega
          have hlt3 : G % gk < gk := Nat.mod_lt _ (by omega)
          go_wp2_with fail
          go_quiet (fail)
          go_wp2_with fail
          go_roundg (G % gk)
          case measure => exact hlt3
          case rel => exact ⟨gk, by first | rfl | go_num, rfl, by have := HZ'.out; omega, HZ'.out, by rw [HR.out, HE.out], m' + nq, (World.drewN_drewN _ _ _).trans (by rfl)⟩
    · obtain rfl : gk = 0 := by omega
      obtain rfl : k = 2 := by omega
      rw [gAt2]
      go_wp2_with fail
      go_ret
      exact ⟨rfl, m, rfl⟩
end Go.Proofs.YtfcdoifijgbjeaaDoor
