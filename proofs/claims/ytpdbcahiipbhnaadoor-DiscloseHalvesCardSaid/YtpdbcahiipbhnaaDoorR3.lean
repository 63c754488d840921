/- The reference implementation of layer 28: Sum, Number. -/
import Derived.Test.YtpdbcahiipbhnaaDoorR2
namespace Go.Proofs.YtpdbcahiipbhnaaDoor
open Go.RowKit

theorem hexW_take (x : Sha.W) (m : Nat) (h : m < 8) : (Sha.hexW x).take (m + 1) = (Sha.hexW x).take m ++ [Sha.dig (x.toNat / 16 ^ (7 - m) % 16)] := by
  rw [List.take_add_one, hexW_at x m h]; rfl
theorem nib_val (x : Sha.W) (n : Nat) : bits .and .u32 ((x.toNat : Int) / 2 ^ (4 * n)) 15 = ((x.toNat / 16 ^ n % 16 : Nat) : Int) := by
  have h := Sha.and_W (x >>> (4 * n)) 15#32
  rw [Sha.shr_W]
  have h15 : ((15#32 : BitVec 32).toNat : Int) = 15 := by decide
  rw [h15] at h
  rw [h, BitVec.toNat_and, BitVec.toNat_ushiftRight, Nat.shiftRight_eq_div_pow]
  have := Nat.and_two_pow_sub_one_eq_mod (x.toNat / 2 ^ (4 * n)) 4
  rw [show (15#32 : BitVec 32).toNat = 2 ^ 4 - 1 by decide, this, Nat.pow_mul]
theorem dig_low (D : Nat) (h : D < 10) : ((Sha.dig D).toNat : Int) = 48 + (D : Int) := by
  unfold Sha.dig; rw [if_pos h, UInt8.toNat_ofNat']; omega
theorem dig_high (D : Nat) (h : ¬ D < 10) (h2 : D < 16) : ((Sha.dig D).toNat : Int) = 87 + (D : Int) := by
  unfold Sha.dig; rw [if_neg h, UInt8.toNat_ofNat']; omega

set_option maxHeartbeats 2000000 in
set_option maxRecDepth 100000 in
theorem RSum_any (s : ByteArray) (w : World) (hs : s.size ≤ 1000000) :
    Calls Tryd.prog 56 #[.string s] w fun e w' => e = .returned (.string (hexB s.data.toList)) ∧ Below w.heap.size w w' := by
  go_enter Tryd.func56, Tryd.ntmps56
  go_wp2_with fail
  refine (words_any s _ hs).mono ?_
  rintro e w1 ⟨H, rfl, hr, h1, h2, hb0⟩
  generalize hvs : Sha.sum s.data.toList = vs at hr
  have HR := Lib.hid hr
  have HVS := Lib.hid hvs
  have HB0 := Lib.hid hb0
  have hsz0 := hb0.size
  clear hr hvs hb0
  go_wp2_with fail
  go_loopg [4, 5] 8 (fun gk v i wr => ∃ k : Nat, k + gk = 8 ∧ i = .int .i64 (k : Nat) ∧ Own wr w1.heap.size 1 v (8 * k) (bv (hexTo vs k)) ∧ Below w1.heap.size w1 wr)
  case atStart => exact ⟨0, by omega, rfl, Own.nil _ _ _, Below.refl _ _⟩
  case round =>
    obtain ⟨k, hk, rfl, hown, hb⟩ := hrel
    obtain ⟨ao, cap, rfl, hc1, hc2⟩ := hown.shape
    by_cases hlt : k < 8
    · have hlt' : (k : Int) < 8 := by omega
      have hk0 : (0 : Int) ≤ (k : Int) := by omega
      have hx := HR.out k _ (Sha.wv_at vs.toList k hlt)
      rw [Nat.zero_add] at hx
      have HS := Lib.hid (hexTo_succ vs k hlt)
      generalize vs.toList.getD k 0 = x at hx HS
      have HX := Lib.hid hx
      clear hx
      obtain ⟨gk2, hgk2⟩ : ∃ n : Nat, n = gk := ⟨_, rfl⟩
      subst hgk2
      go_wp2_with fail
      go_loopg [4, 6] 8 (fun gk v i wr => ∃ m : Nat, m + gk = 8 ∧ i = .int .i64 ((gk : Int) - 1) ∧ Own wr w1.heap.size 1 v (8 * k + m) (bv (hexTo vs k ++ (Sha.hexW x).take m)) ∧ Below w1.heap.size w1 wr)
      case atStart => exact ⟨0, by omega, rfl, by simpa using hown, hb⟩
      case round =>
        clear hown hb hc1 hc2
        obtain ⟨m, hm, hi, hown, hb⟩ := hrel
        obtain ⟨ao, cap, rfl, hc1, hc2⟩ := hown.shape
        have hsz := hb.size
        cases gk with
        | succ n =>
          rw [show ((n + 1 : Nat) : Int) - 1 = (n : Int) by omega] at hi
          subst hi
          have hn8 : (n : Int) < 8 := by omega
          have e1 : (4 * (n : Int)).toNat = 4 * n := by omega
          have hcell := (Below.cell hb (p := ⟨H, k, none⟩) h2).trans HX.out
          have hnib := nib_val x n
          have HT := Lib.hid (hexW_take x m (by omega))
          rw [show 7 - m = n by omega] at HT
          have hD : x.toNat / 16 ^ n % 16 < 16 := Nat.mod_lt _ (by omega)
          generalize x.toNat / 16 ^ n % 16 = D at hnib HT hD
          have hD1 : (D : Int) % 256 = D := by omega
          by_cases h10 : D < 10
          · have h10' : (D : Int) < 10 := by omega
            have HG := Lib.hid (dig_low D h10)
            go_wp2_with (at_builtin; go_must (refine app_u8 rfl _ _ 106 rfl w1.heap.size _ _ _ rfl (hown.alloc _) _ 1 [.int .u8 _] rfl (src_u8 _ _ _ _ 1 (by simp [World.cell?_alloc_at]; rfl)) (by omega) (by simp; omega) ?_))
            intro v2 w2 hown2 hgrow2 _
            have hb2 := (hb.alloc (by omega) _).grown hgrow2 (by simp; omega) (fun g hg => by have := hown.lt g hg; omega)
            rw [← HG.out] at hown2
            have HO2 := Lib.hid hown2
            clear hown hb hgrow2 hown2 hcell hnib hD1 h10'
            go_wp2_with fail
            go_roundg n
            case measure => omega
            case rel => exact ⟨m + 1, by omega, rfl, by rw [HT.out, ← List.append_assoc, bv_append]; exact HO2.out, hb2⟩
          · have h10' : ¬ (D : Int) < 10 := by omega
            have HG := Lib.hid (dig_high D h10 hD)
            go_wp2_with (at_builtin; go_must (refine app_u8 rfl _ _ 106 rfl w1.heap.size _ _ _ rfl (hown.alloc _) _ 1 [.int .u8 _] rfl (src_u8 _ _ _ _ 1 (by simp [World.cell?_alloc_at]; rfl)) (by omega) (by simp; omega) ?_))
            intro v2 w2 hown2 hgrow2 _
            have hb2 := (hb.alloc (by omega) _).grown hgrow2 (by simp; omega) (fun g hg => by have := hown.lt g hg; omega)
            rw [show 97 + (D : Int) - 10 = 87 + (D : Int) by omega, ← HG.out] at hown2
            have HO2 := Lib.hid hown2
            clear hown hb hgrow2 hown2 hcell hnib hD1 h10'
            go_wp2_with fail
            go_roundg n
            case measure => omega
            case rel => exact ⟨m + 1, by omega, rfl, by rw [HT.out, ← List.append_assoc, bv_append]; exact HO2.out, hb2⟩
        | zero =>
          obtain rfl : m = 8 := by omega
          subst hi
          have hfull : hexTo vs k ++ (Sha.hexW x).take 8 = hexTo vs (k + 1) := by
            rw [List.take_of_length_le (by rw [Sha.hexW_length]; exact Nat.le_refl _), HS.out]
          rw [hfull] at hown
          clear hfull hm
          go_wp2_with fail
          go_roundg (gk2 - 1)
          case measure => omega
          case rel => exact ⟨k + 1, by omega, by go_num, hown, hb⟩
    · obtain rfl : gk = 0 := by omega
      obtain rfl : k = 8 := by omega
      clear hlt hk
      obtain ⟨g, o, cap', hv, hg1, hg2, hc3, hc4, hrg, _⟩ := hown.place (by omega)
      cases hv
      have hl := hexTo_length vs 8 (by omega)
      have HRG := Lib.hid hrg
      have HL := Lib.hid hl
      have HBB := Lib.hid hb
      clear hrg hl hb hown
      generalize hds : hexTo vs 8 = ds at HRG HL
      have HDS := Lib.hid hds
      clear hds
      go_wp2_with (with_reducible refine wpList_string rfl 106 9 _ rfl 5 g o 64 _ rfl ds HRG.out HL.out Tryd.underlying106 Tryd.underlying5 Tryd.underlying9 ?_)
      go_ret
      exact ⟨by unfold hexB; rw [← hexTo_all, HVS.out, HDS.out]; rfl, HB0.out.trans (HBB.out.mono hsz0)⟩

theorem num_ref {x y : Sha.W} {T : Nat} {m : Int} (h : T = x.toNat * 2 ^ 28 + y.toNat / 16) (hl : T < 2 ^ 60) (h1 : 1 ≤ m) (h2 : m ≤ 9223372036854775807) :
    wrap64 ((bits .or .u64 ((x.toNat : Int) * 4294967296) (y.toNat : Int) / 16).tmod m) = (T : Int) % m := by
  have hx := Sha.toNat_lt x
  have hy := Sha.toNat_lt y
  have e := u64_or_nat (x.toNat * 2 ^ 32) y.toNat (by omega) (by omega)
  rw [show ((x.toNat * 2 ^ 32 : Nat) : Int) = (x.toNat : Int) * 4294967296 by omega] at e
  rw [e]
  have h3 := Nat.two_pow_add_eq_or_of_lt (i := 32) (b := y.toNat) (by omega) x.toNat
  rw [Nat.mul_comm] at h3
  rw [← h3]
  have e2 : ((x.toNat * 2 ^ 32 + y.toNat : Nat) : Int) / 16 = (T : Int) := by omega
  rw [e2, Int.tmod_eq_emod_of_nonneg (by omega)]
  have a := Int.emod_nonneg (T : Int) (show m ≠ 0 by omega)
  have b := Int.emod_lt_of_pos (T : Int) (show 0 < m by omega)
  unfold wrap64
  omega

set_option maxHeartbeats 1000000 in
theorem RNumber_zero (s : ByteArray) (m : Int) (w : World) (hm : m < 1) :
    Calls Tryd.prog 94 #[.string s, .int .i64 m] w fun e w' => e = .returned (.int .i64 (Sha.number s.data.toList m)) ∧ Below w.heap.size w w' := by
  have hn : Sha.number s.data.toList m = 0 := by unfold Sha.number; rw [if_pos hm]
  rw [hn]
  go_enter Tryd.func94, Tryd.ntmps94
  go_wp2
  go_ret
  exact ⟨rfl, Below.refl _ _⟩

set_option maxHeartbeats 1000000 in
theorem RNumber_pos (s : ByteArray) (m : Int) (w : World) (hs : s.size ≤ 1000000) (hm : 1 ≤ m) (hm2 : m ≤ 9223372036854775807) :
    Calls Tryd.prog 94 #[.string s, .int .i64 m] w fun e w' => e = .returned (.int .i64 (Sha.number s.data.toList m)) ∧ Below w.heap.size w w' := by
  have hn : Sha.number s.data.toList m = (Sha.top s.data.toList : Int) % m := by unfold Sha.number; rw [if_neg (by omega)]
  rw [hn]
  clear hn
  have hl := top_lt s.data.toList
  go_enter Tryd.func94, Tryd.ntmps94
  go_wp2_with fail
  refine (words_any s _ hs).mono ?_
  rintro e w1 ⟨H, rfl, hr, h1, h2, hb0⟩
  generalize hvs : Sha.sum s.data.toList = vs at hr
  have htop := sum_a _ _ hvs
  have c0 := hr 0 _ (Sha.wv_at vs.toList 0 (by simp [Sha.V.toList]))
  have c1 := hr 1 _ (Sha.wv_at vs.toList 1 (by simp [Sha.V.toList]))
  rw [Nat.zero_add] at c0 c1
  have e0 : vs.toList.getD 0 0 = vs.a := rfl
  have e1 : vs.toList.getD 1 0 = vs.b := rfl
  rw [e0] at c0
  rw [e1] at c1
  generalize vs.a = xa at c0 htop
  generalize vs.b = xb at c1 htop
  have HTOP := Lib.hid htop
  have HL := Lib.hid hl
  clear htop hl hr e0 e1 hvs
  go_wp2_with fail
  go_quiet (fail)
  go_wp2_with fail
  go_ret
  exact ⟨ret_int (num_ref HTOP.out HL.out hm hm2), ⟨hb0.os, hb0.tape, hb0.output, hb0.size, hb0.block⟩⟩
theorem RNumber_any (s : ByteArray) (m : Int) (w : World) (hs : s.size ≤ 1000000) (hm2 : m ≤ 9223372036854775807) :
    Calls Tryd.prog 94 #[.string s, .int .i64 m] w fun e w' => e = .returned (.int .i64 (Sha.number s.data.toList m)) ∧ Below w.heap.size w w' := by
  by_cases hm : m < 1
  · exact RNumber_zero s m w hm
  · exact RNumber_pos s m w hs (by omega) hm2
end Go.Proofs.YtpdbcahiipbhnaaDoor
