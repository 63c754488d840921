import Derived.Test.YtpdbcahiipbhnaaDoorRows
import Derived.Test.YtpdbcahiipbhnaaDoorWords
import Derived.WalkKit
import Derived.WalkSpells
import Derived.WalkLawsBesides
import Derived.Lib.Hide
import Derived.IntWalk
namespace Go.Proofs.YtpdbcahiipbhnaaDoor
open Go.RowKit

theorem ret_int {k : IntKind} {a b : Int} (h : a = b) : Ending.returned (.int k a) = .returned (.int k b) := by rw [h]

set_option maxHeartbeats 400000 in
theorem rot_any (x : Sha.W) (n : Nat) (w : World) (h1 : 1 ≤ n) (h2 : n ≤ 31) :
    Calls Tryd.prog 109 #[.int .u32 x.toNat, .int .i64 (-(n : Int))] w fun e w' => e = .returned (.int .u32 (Sha.rotr x n).toNat) ∧ w = w' := by
  have e1 := Sha.rot_mask n h1 h2
  go_enter Tryd.func109, Tryd.ntmps109
  go_wp2
  go_ret
  exact ⟨ret_int (Sha.rot_val x n (by omega)), rfl⟩

set_option maxHeartbeats 400000 in
theorem mix_any (x : Sha.W) (l : List Nat) (b off cap : Nat) (w : World) (hl : l.length ≤ 1000)
    (hc : ∀ i, i < l.length → w.cell? ⟨b, off + i, none⟩ = some (.int .i64 ((l.getD i 0 : Nat) : Int))) (hr : ∀ i, i < l.length → 1 ≤ l.getD i 0 ∧ l.getD i 0 ≤ 31) :
    Calls Tryd.prog 102 #[.int .u32 x.toNat, .slice (some ⟨b, off, none⟩) l.length cap] w fun e w' => e = .returned (.int .u32 (Sha.mixL x l).toNat) ∧ w = w' := by
  have HC := Lib.hid hc; clear hc
  have HR := Lib.hid hr; clear hr
  go_enter Tryd.func102, Tryd.ntmps102
  go_wp2
  go_loop [4, 9] (fun y i => ∃ k : Nat, k ≤ l.length ∧ i = .int .i64 k ∧ y = .int .u32 (Sha.mixL x (l.take k)).toNat) (fun _ i => l.length - (intOf i).toNat)
  case atStart => exact ⟨0, Nat.zero_le _, rfl, rfl⟩
  case round =>
    obtain ⟨k, hk, rfl, rfl⟩ := hrel
    by_cases hlt : k < l.length
    · have hcell := HC.out k hlt
      obtain ⟨r1, r2⟩ := HR.out k hlt
      have HS := Lib.hid (Sha.mixL_take x l k hlt)
      generalize hn : l.getD k 0 = n at *
      have HN := Lib.hid hn; clear hn
      go_wp2_with (go_at_call 109; refine (rot_any _ _ _ r1 r2).mono ?_; rintro e w' ⟨rfl, rfl⟩)
      go_round
      case rel => exact ⟨k + 1, by omega, by go_num, by rw [HS.out, Sha.xor_W]⟩
      case measure => simp [intOf]; omega
    · go_wp2
      go_ret
      exact ⟨ret_int (by rw [List.take_of_length_le (by omega)]), rfl⟩
/-- The four calls of mix that the digest makes. -/
theorem mix_s0 (x : Sha.W) (b : Nat) (w : World) (h0 : w.cell? ⟨b, 0, none⟩ = some (.int .i64 7)) (h1 : w.cell? ⟨b, 1, none⟩ = some (.int .i64 18)) :
    Calls Tryd.prog 102 #[.int .u32 x.toNat, .slice (some ⟨b, 0, none⟩) 2 2] w fun e w' => e = .returned (.int .u32 (Sha.r0 x).toNat) ∧ w = w' :=
  (mix_any x [7, 18] b 0 2 w (by decide) (fun i hi => by match i, hi with | 0, _ => exact h0 | 1, _ => exact h1) (fun i hi => by match i, hi with | 0, _ => decide | 1, _ => decide)).mono fun _ _ ⟨he, hw⟩ => ⟨by rw [he]; simp [Sha.mixL, Sha.r0], hw⟩
theorem mix_s1 (x : Sha.W) (b : Nat) (w : World) (h0 : w.cell? ⟨b, 0, none⟩ = some (.int .i64 17)) (h1 : w.cell? ⟨b, 1, none⟩ = some (.int .i64 19)) :
    Calls Tryd.prog 102 #[.int .u32 x.toNat, .slice (some ⟨b, 0, none⟩) 2 2] w fun e w' => e = .returned (.int .u32 (Sha.r1 x).toNat) ∧ w = w' :=
  (mix_any x [17, 19] b 0 2 w (by decide) (fun i hi => by match i, hi with | 0, _ => exact h0 | 1, _ => exact h1) (fun i hi => by match i, hi with | 0, _ => decide | 1, _ => decide)).mono fun _ _ ⟨he, hw⟩ => ⟨by rw [he]; simp [Sha.mixL, Sha.r1], hw⟩
theorem mix_S1 (x : Sha.W) (b : Nat) (w : World) (h0 : w.cell? ⟨b, 0, none⟩ = some (.int .i64 6)) (h1 : w.cell? ⟨b, 1, none⟩ = some (.int .i64 11)) (h2 : w.cell? ⟨b, 2, none⟩ = some (.int .i64 25)) :
    Calls Tryd.prog 102 #[.int .u32 x.toNat, .slice (some ⟨b, 0, none⟩) 3 3] w fun e w' => e = .returned (.int .u32 (Sha.S1 x).toNat) ∧ w = w' :=
  (mix_any x [6, 11, 25] b 0 3 w (by decide) (fun i hi => by match i, hi with | 0, _ => exact h0 | 1, _ => exact h1 | 2, _ => exact h2) (fun i hi => by match i, hi with | 0, _ => decide | 1, _ => decide | 2, _ => decide)).mono fun _ _ ⟨he, hw⟩ => ⟨by rw [he]; simp [Sha.mixL, Sha.S1], hw⟩
theorem mix_S0 (x : Sha.W) (b : Nat) (w : World) (h0 : w.cell? ⟨b, 0, none⟩ = some (.int .i64 2)) (h1 : w.cell? ⟨b, 1, none⟩ = some (.int .i64 13)) (h2 : w.cell? ⟨b, 2, none⟩ = some (.int .i64 22)) :
    Calls Tryd.prog 102 #[.int .u32 x.toNat, .slice (some ⟨b, 0, none⟩) 3 3] w fun e w' => e = .returned (.int .u32 (Sha.S0 x).toNat) ∧ w = w' :=
  (mix_any x [2, 13, 22] b 0 3 w (by decide) (fun i hi => by match i, hi with | 0, _ => exact h0 | 1, _ => exact h1 | 2, _ => exact h2) (fun i hi => by match i, hi with | 0, _ => decide | 1, _ => decide | 2, _ => decide)).mono fun _ _ ⟨he, hw⟩ => ⟨by rw [he]; simp [Sha.mixL, Sha.S0], hw⟩
end Go.Proofs.YtpdbcahiipbhnaaDoor
