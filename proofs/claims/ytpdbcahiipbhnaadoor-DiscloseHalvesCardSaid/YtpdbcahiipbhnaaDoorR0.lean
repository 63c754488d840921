/- The reference implementation of layer 28: turn, constants, padded. -/
import Derived.Test.YtpdbcahiipbhnaaDoorL28
import Derived.StillTailTactics
namespace Go.Proofs.YtpdbcahiipbhnaaDoor
open Go.RowKit

theorem turn_val (x : Sha.W) (n : Nat) : bits .or .u32 ((x.toNat : Int) / 2 ^ n) ((x.toNat : Int) * 2 ^ (32 - n) % 4294967296) = ((Sha.rotr x n).toNat : Int) := by
  rw [Sha.shr_W, Sha.shl_W', Sha.or_W]; rfl

set_option maxHeartbeats 400000 in
theorem turn_any (x : Sha.W) (n : Nat) (w : World) (h1 : 1 ≤ n) (h2 : n ≤ 31) :
    Calls Tryd.prog 115 #[.int .u32 x.toNat, .int .u64 n] w fun e w' => e = .returned (.int .u32 (Sha.rotr x n).toNat) ∧ w = w' := by
  have hw : IntKind.u64.wrap (32 - (n : Int)) = 32 - (n : Int) := by rw [IntKind.wrap_u64]; omega
  have g1 : (n : Int) < 32 := by omega
  have g2 : 32 - (n : Int) < 32 := by omega
  have g3 : 0 ≤ 32 - (n : Int) := by omega
  have g4 : (32 - (n : Int)).toNat = 32 - n := by omega
  go_enter Tryd.func115, Tryd.ntmps115
  go_wp2_with fail
  go_ret
  exact ⟨ret_int (turn_val x n), rfl⟩

set_option maxHeartbeats 400000 in
theorem constants_any (w : World) :
    Calls Tryd.prog 106 #[] w fun e w' => e = .returned (.slice (some ⟨w.heap.size, 0, none⟩) 64 64) ∧ w' = w.alloc (.cells (Sha.wv Sha.Ks).toArray 107) := by
  go_enter Tryd.func106, Tryd.ntmps106
  go_wp2_with fail
  go_ret
  exact ⟨rfl, congrArg (fun a => w.alloc (.cells a 107)) (by kernel_rfl)⟩

set_option maxHeartbeats 1000000 in
set_option maxRecDepth 100000 in
theorem padded_any (s : ByteArray) (w : World) (hs : s.size ≤ 1000000) :
    Calls Tryd.prog 105 #[.string s] w fun e w' => ∃ v, e = .returned v ∧ Own w' w.heap.size 1 v (Sha.pad s.data.toList).length (bv (Sha.pad s.data.toList)) ∧ Below w.heap.size w w' := by
  have hw64 : wrap64 (s.size : Int) = (s.size : Int) := by unfold wrap64; omega
  go_enter Tryd.func105, Tryd.ntmps105
  go_wp2_with fail
  go_loopg [3, 4] s.size (fun gk v i wr => ∃ k : Nat, k + gk = s.size ∧ i = .int .i64 (k : Nat) ∧ Own wr w.heap.size 1 v k (bv (s.data.toList.take k)) ∧ Below w.heap.size w wr)
  case atStart => exact ⟨0, by omega, rfl, Own.nil _ _ _, Below.refl _ _⟩
  case round =>
    obtain ⟨k, hk, rfl, hown, hb⟩ := hrel
    obtain ⟨ao, cap, rfl, hc1, hc2⟩ := hown.shape
    by_cases hlt : k < s.size
    · have hlt' : (k : Int) < (s.size : Int) := by omega
      have htk : s.data.toList.take (k + 1) = s.data.toList.take k ++ [s[k]] := by
        rw [List.take_add_one, List.getElem?_eq_getElem (by simpa using hlt)]; rfl
      have HTK := Lib.hid htk
      clear htk
      have hsz := hb.size
      go_wp2_with (at_builtin; go_must (refine app_u8 rfl _ _ 106 rfl w.heap.size _ _ _ rfl (hown.alloc _) _ 1 [.int .u8 _] rfl (src_u8 _ _ _ _ 1 (by simp [World.cell?_alloc_at]; rfl)) (by omega) (by simp; omega) ?_))
      intro v2 w2 hown2 hgrow2 _
      have hb2 := (hb.alloc (by omega) _).grown hgrow2 (by simp; omega) (fun g hg => by have := hown.lt g hg; omega)
      clear hown hb hgrow2
      go_wp2_with fail
      go_roundg (gk - 1)
      case measure => omega
      case rel => exact ⟨k + 1, by omega, by go_num, by rw [HTK.out, bv_append]; exact hown2, hb2⟩
    · obtain rfl : gk = 0 := by omega
      obtain rfl : k = s.size := by omega
      have hnl : s.data.toList.take s.size = s.data.toList := List.take_of_length_le (by simp)
      rw [hnl] at hown
      clear hlt hk hnl
      have hsz := hb.size
      go_wp2_with (at_builtin; go_must (refine app_u8 rfl _ _ 106 rfl w.heap.size _ _ _ rfl (hown.alloc _) _ 1 [.int .u8 128] rfl (src_u8 _ _ _ 128 1 (by simp [World.cell?_alloc_at])) (by omega) (by simp; omega) ?_))
      intro v2 w2 hown2 hgrow2 _
      have hb2 := (hb.alloc (by omega) _).grown hgrow2 (by simp; omega) (fun g hg => by have := hown.lt g hg; omega)
      clear hown hb hgrow2 hc1 hc2
      go_wp2_with fail
      go_loopg [3] (Sha.zeros s.size) (fun gk v wr => ∃ k : Nat, k + gk = Sha.zeros s.size ∧ Own wr w.heap.size 1 v (s.size + 1 + k) (bv (s.data.toList ++ [128] ++ List.replicate k 0)) ∧ Below w.heap.size w wr)
      case atStart => exact ⟨0, by omega, by simpa [bv] using hown2, hb2⟩
      case round =>
        clear hown2 hb2
        obtain ⟨k, hk, hown, hb⟩ := hrel
        obtain ⟨ao, cap, rfl, hc1, hc2⟩ := hown.shape
        have hz := zeros_lt s.size
        have hsz := hb.size
        by_cases hlt : k < Sha.zeros s.size
        · have ht := pad_test1 s.size k hlt
          go_wp2_with (at_builtin; go_must (refine app_u8 rfl _ _ 106 rfl w.heap.size _ _ _ rfl (hown.alloc _) _ 1 [.int .u8 0] rfl (src_u8 _ _ _ 0 1 (by simp [World.cell?_alloc_at])) (by omega) (by simp; omega) ?_))
          intro v2 w2 hown2 hgrow2 _
          have hb2 := (hb.alloc (by omega) _).grown hgrow2 (by simp; omega) (fun g hg => by have := hown.lt g hg; omega)
          clear hown hb hgrow2
          go_wp2_with fail
          go_roundg (gk - 1)
          case measure => omega
          case rel => exact ⟨k + 1, by omega, by simpa [bv, List.replicate_succ', Nat.add_assoc] using hown2, hb2⟩
        · obtain rfl : gk = 0 := by omega
          obtain rfl : k = Sha.zeros s.size := by omega
          have ht := pad_test2 s.size
          clear hlt hk
          have hm8 : (s.size : Int) * 8 < 18446744073709551616 := by omega
          go_wp2_with fail
          go_loopg [3, 6] 8 (fun gk v i wr => ∃ j : Nat, j + gk = 8 ∧ i = .int .i64 ((gk : Int) - 1) ∧ Own wr w.heap.size 1 v (s.size + 1 + Sha.zeros s.size + j) (bv (s.data.toList ++ [128] ++ List.replicate (Sha.zeros s.size) 0 ++ (Sha.lenBytes s.size).take j)) ∧ Below w.heap.size w wr)
          case atStart => exact ⟨0, by omega, rfl, by simpa using hown, hb⟩
          case round =>
            clear hown hb hc1 hc2
            obtain ⟨j, hj, hi, hown, hb⟩ := hrel
            obtain ⟨ao, cap, rfl, hc1, hc2⟩ := hown.shape
            have hsz := hb.size
            cases gk with
            | succ m =>
              rw [show ((m + 1 : Nat) : Int) - 1 = (m : Int) by omega] at hi
              subst hi
              have hm : m < 8 := by omega
              have hm' : (m : Int) < 8 := by omega
              have e1 : (8 * (m : Int)).toNat = 8 * m := by omega
              have e2 : 8 * (m : Int) < 18446744073709551616 := by omega
              have e3 : (m : Int) < 18446744073709551616 := by omega
              have HV := Lib.hid (show ((UInt8.ofNat (8 * s.size / 2 ^ (8 * (7 - j)) % 256)).toNat : Int) = (s.size : Int) * 8 / 2 ^ (8 * m) % 256 by rw [Sha.lenBytes_val s.size j (by omega), show 56 - 8 * j = 8 * m by omega])
              have HT2 := Lib.hid (Sha.lenBytes_take s.size j (by omega))
              clear hm8 e2 e3 ht hm hz hw64
              go_wp2_with (at_builtin; go_must (refine app_u8 rfl _ _ 106 rfl w.heap.size _ _ _ rfl (hown.alloc _) _ 1 [.int .u8 _] rfl (src_u8 _ _ _ _ 1 (by simp [World.cell?_alloc_at]; rfl)) (by have := zeros_lt s.size; omega) (by simp; omega) ?_))
              intro v2 w2 hown2 hgrow2 _
              have hb2 := (hb.alloc (by omega) _).grown hgrow2 (by simp; omega) (fun g hg => by have := hown.lt g hg; omega)
              clear hown hb hgrow2
              go_wp2_with fail
              rw [← HV.out] at hown2
              go_roundg m
              case measure => omega
              case rel => exact ⟨j + 1, by omega, rfl, by rw [HT2.out]; simpa [bv, Nat.add_assoc] using hown2, hb2⟩
            | zero =>
              obtain rfl : j = 8 := by omega
              subst hi
              clear hj
              have hfull : s.data.toList ++ [128] ++ List.replicate (Sha.zeros s.size) 0 ++ (Sha.lenBytes s.size).take 8 = Sha.pad s.data.toList := by
                rw [List.take_of_length_le (by simp [Sha.lenBytes])]; simp [Sha.pad]
              have hpl := Sha.pad_length s.data.toList
              have hL : s.size + 1 + Sha.zeros s.size + 8 = (Sha.pad s.data.toList).length := by simp at hpl; have : s.data.size = s.size := rfl; omega
              rw [hfull] at hown
              have HLEN := Lib.hid hL
              clear hL
              have HOWN := Lib.hid hown
              clear hfull hpl hown
              go_wp2_with fail
              go_ret
              exact ⟨_, rfl, HLEN.out ▸ HOWN.out, hb⟩
end Go.Proofs.YtpdbcahiipbhnaaDoor
