/- The reference implementation of layer 28: block. -/
import Derived.Test.YtpdbcahiipbhnaaDoorR0
import Derived.Deep.RegionHeldLaw
namespace Go.Proofs.YtpdbcahiipbhnaaDoor
open Go.RowKit

theorem turn_lit (x : Sha.W) (k : Int) (w : World) (h1 : 1 ≤ k) (h2 : k ≤ 31) :
    Calls Tryd.prog 115 #[.int .u32 x.toNat, .int .u64 k] w fun e w' => e = .returned (.int .u32 (Sha.rotr x k.toNat).toNat) ∧ w' = w := by
  have h := turn_any x k.toNat w (by omega) (by omega)
  rw [show ((k.toNat : Nat) : Int) = k by omega] at h
  exact h.mono fun _ _ ⟨a, b⟩ => ⟨a, b.symm⟩

theorem wrap_i64_in {x : Int} (h1 : -9223372036854775808 ≤ x) (h2 : x ≤ 9223372036854775807) : IntKind.i64.wrap x = x := IntWalk.i64_in _ ⟨h1, h2⟩

/-- The append as one step of a region that draws its order. -/
theorem step_app_u32 {w : World} {ops : Array Oper} {o : Oper} {a : Act} {K : Act → World → Prop} {Q : Exit → Act → World → Prop} {E : Prop} (hgd : o.guard = none) (s x : Operand) (tx : TypeId)
    (ho : o.op = .call { callee := .builtin .append, args := #[s, x], argTypes := #[114, tx] })
    (B : Nat) (v : Value) (n : Nat) (xs : List Value) (hs : a.eval s = v) (hown : Own w B 1 v n xs) (xv : Value) (m : Nat) (news : List Value) (hx : a.eval x = xv) (hsrc : Src Tryd.prog 1 tx xv m news w)
    (hbytes : n + m ≤ 10000000000) (hbase : B ≤ w.heap.size)
    (h : ∀ v' w', Own w' B 1 v' (n + m) (xs ++ news) → w.grownBy w' v.ownBlock → (n + m ≠ 0 → v' ≠ .slice none 0 0) → K (a.put o.dst v') w') :
    if Region.wanted o (yielded ops a.tmps) = true then Oper.wp Tryd.prog o a w K Q else E := by
  rw [if_pos (by simp [Region.wanted, hgd])]
  obtain ⟨i0, hi, hz0, hz1, hz2⟩ := info_parts infoU32
  obtain ⟨v', w', hr, h2, h3, h4⟩ := run_append_Own (P := Tryd.prog) B 114 tx o.type 107 i0 (.int .u32 0) 1 4 Tryd.underlying114 hi hz0 hz1 hz2 rfl v n xs hown xv m news hsrc (by unfold maxLen; omega) (by omega) hbase
  unfold Oper.wp execOp
  simp only [ho, resolve, invoke, builtin, Sem.run_bind, Sem.run_pure, Result.andThen_ok, List.map_toArray, List.map_cons, List.map_nil, hs, hx, hr]
  exact h _ _ h2 h3 h4
/-- The same where there was something before: what was there stays as it was. -/
theorem step_app_u32k {w : World} {ops : Array Oper} {o : Oper} {a : Act} {K : Act → World → Prop} {Q : Exit → Act → World → Prop} {E : Prop} (hgd : o.guard = none) (s x : Operand) (tx : TypeId)
    (ho : o.op = .call { callee := .builtin .append, args := #[s, x], argTypes := #[114, tx] })
    (B g oo cap n : Nat) (xs : List Value) (hs : a.eval s = .slice (some ⟨g, oo, none⟩) n cap) (hown : Own w B 1 (.slice (some ⟨g, oo, none⟩) n cap) n xs) (xv : Value) (m : Nat) (news : List Value) (hx : a.eval x = xv) (hsrc : Src Tryd.prog 1 tx xv m news w)
    (hbytes : n + m ≤ 10000000000) (hbase : B ≤ w.heap.size)
    (h : ∀ v' w', Own w' B 1 v' (n + m) (xs ++ news) → w.grownBy w' (some g) → w'.rangeAt g oo xs → K (a.put o.dst v') w') :
    if Region.wanted o (yielded ops a.tmps) = true then Oper.wp Tryd.prog o a w K Q else E := by
  rw [if_pos (by simp [Region.wanted, hgd])]
  obtain ⟨i0, hi, hz0, hz1, hz2⟩ := info_parts infoU32
  obtain ⟨v', w', hr, h2, h3, h4⟩ := run_append_Own (P := Tryd.prog) B 114 tx o.type 107 i0 (.int .u32 0) 1 4 Tryd.underlying114 hi hz0 hz1 hz2 rfl _ n xs hown xv m news hsrc (by unfold maxLen; omega) (by omega) hbase
  have hk : w'.rangeAt g oo xs := by
    rcases hown.2 with ⟨hv, _⟩ | ⟨g', o', cap', hv, hBg, hgs, hnc, hcm, hrg, hth⟩
    · cases hv
    cases hv
    have hxl : xs.length = n := by have := hown.1; omega
    have hnl : news.length = m := by have := hsrc.newsLen; omega
    by_cases hroom : n + m ≤ cap
    · have hth' : w.there g (oo + n * i0.size) news.length := fun j hj => by
        have := hth (n * 1 + j) (by omega)
        rw [hz1]
        rwa [← Nat.add_assoc] at this
      have hg := run_append_room_src (P := Tryd.prog) w 114 tx o.type 107 i0 Tryd.underlying114 hi g oo n cap xv m news (by rw [hz1]; exact hsrc) hroom (fun j hj => (hth' j hj).1) (fun j hj => (hth' j hj).2)
      rw [hr] at hg
      injection hg with _ hw
      rw [hw]
      exact World.rangeAt_setCells_apart hrg _ _ _ (.inr (.inl (by rw [hxl, hz1]; omega)))
    · have hold : (Builtin.firstCells i0.size n (.slice (some ⟨g, oo, none⟩) n cap)).run Tryd.prog w.drew = .ok xs.toArray w.drew :=
        run_firstCells_some (P := Tryd.prog) w.drew i0.size n ⟨g, oo, none⟩ n cap xs (by rw [hz1]; omega) (fun j u hj => by rw [Addr.add_mid]; exact hrg j u hj)
      have hg := run_append_grow_src (P := Tryd.prog) w 114 tx o.type 107 i0 (.int .u32 0) Tryd.underlying114 hi hz0 (some ⟨g, oo, none⟩) n cap xs hold xv m news (by rw [hz1]; exact hsrc) (by omega) (by omega) (growslice_fits (by omega) (by rw [hz2]; omega))
      rw [hr] at hg
      injection hg with _ hw
      rw [hw]
      exact rangeAt_alloc (rangeAt_drew hrg) (by simp; omega) _
  unfold Oper.wp execOp
  simp only [ho, resolve, invoke, builtin, Sem.run_bind, Sem.run_pure, Result.andThen_ok, List.map_toArray, List.map_cons, List.map_nil, hs, hx, hr]
  exact h _ _ h2 h3 hk
theorem next_ref (x16 x15 x7 x2 : Sha.W) :
    (((((x16.toNat : Int) + bits .xor .u32 (bits .xor .u32 ((Sha.rotr x15 7).toNat : Int) ((Sha.rotr x15 18).toNat : Int)) ((x15.toNat : Int) / 8)) % 4294967296 + (x7.toNat : Int)) % 4294967296) + bits .xor .u32 (bits .xor .u32 ((Sha.rotr x2 17).toNat : Int) ((Sha.rotr x2 19).toNat : Int)) ((x2.toNat : Int) / 1024)) % 4294967296 =
      ((x16 + Sha.s0 x15 + x7 + Sha.s1 x2).toNat : Int) := by
  rw [Sha.xor_W, Sha.xor_W (Sha.rotr x2 17)]
  have := Sha.next_val x16 x15 x7 x2
  simp only [IntKind.wrap_u32'] at this
  exact this
theorem not_W (x : Sha.W) : bits .xor .u32 IntKind.u32.max (x.toNat : Int) = ((~~~x).toNat : Int) := by
  have h := Sha.xor_W (BitVec.allOnes 32) x
  rw [show (((BitVec.allOnes 32).toNat : Nat) : Int) = IntKind.u32.max by decide, BitVec.allOnes_xor] at h
  exact h
theorem p_ref (a b c d e f g h k w : Sha.W) :
    (((h.toNat : Int) + bits .xor .u32 (bits .xor .u32 ((Sha.rotr e 6).toNat : Int) ((Sha.rotr e 11).toNat : Int)) ((Sha.rotr e 25).toNat : Int) + bits .xor .u32 (bits .and .u32 (e.toNat : Int) (f.toNat : Int)) (bits .and .u32 (bits .xor .u32 IntKind.u32.max (e.toNat : Int)) (g.toNat : Int)) + (k.toNat : Int)) % 4294967296 + (w.toNat : Int)) % 4294967296 =
      ((Sha.pOf ⟨a, b, c, d, e, f, g, h⟩ k w).toNat : Int) := by
  rw [not_W, Sha.xor_W, Sha.xor_W, Sha.and_W, Sha.and_W, Sha.xor_W]
  show _ = ((h + Sha.S1 e + Sha.ch e f g + k + w).toNat : Int)
  rw [← Sha.add_W', ← Sha.add_W', ← Sha.add_W', ← Sha.add_W']
  show (((h.toNat : Int) + ((Sha.S1 e).toNat : Int) + ((Sha.ch e f g).toNat : Int) + (k.toNat : Int)) % 4294967296 + (w.toNat : Int)) % 4294967296 = _
  omega
theorem q_ref (a b c : Sha.W) :
    (bits .xor .u32 (bits .xor .u32 ((Sha.rotr a 2).toNat : Int) ((Sha.rotr a 13).toNat : Int)) ((Sha.rotr a 22).toNat : Int) + bits .xor .u32 (bits .xor .u32 (bits .and .u32 (a.toNat : Int) (b.toNat : Int)) (bits .and .u32 (a.toNat : Int) (c.toNat : Int))) (bits .and .u32 (b.toNat : Int) (c.toNat : Int))) % 4294967296 =
      ((Sha.S0 a + Sha.maj a b c).toNat : Int) := by
  rw [Sha.xor_W, Sha.xor_W, Sha.and_W, Sha.and_W, Sha.and_W, Sha.xor_W, Sha.xor_W, ← Sha.add_W']
  rfl
theorem add_comm_V (x y : Sha.V) : x.add y = y.add x := by
  unfold Sha.V.add
  simp only [BitVec.add_comm]
theorem wrap_W (x : Sha.W) : IntKind.u32.wrap (x.toNat : Int) = (x.toNat : Int) := by
  have := Sha.toNat_lt x
  rw [IntKind.wrap_u32']; omega
theorem word_val (b0 b1 b2 b3 : Sha.W) :
    bits .or .u32 (bits .or .u32 (bits .or .u32 (IntKind.u32.wrap (IntKind.u32.wrap (b0.toNat : Int) * 16777216)) (IntKind.u32.wrap (IntKind.u32.wrap (b1.toNat : Int) * 65536))) (IntKind.u32.wrap (IntKind.u32.wrap (b2.toNat : Int) * 256))) (IntKind.u32.wrap (b3.toNat : Int))
      = ((b0 <<< 24 ||| b1 <<< 16 ||| b2 <<< 8 ||| b3).toNat : Int) := by
  have h0 := Sha.shl_W b0 24
  have h1 := Sha.shl_W b1 16
  have h2 := Sha.shl_W b2 8
  rw [show ((2 : Int) ^ 24) = 16777216 by decide] at h0
  rw [show ((2 : Int) ^ 16) = 65536 by decide] at h1
  rw [show ((2 : Int) ^ 8) = 256 by decide] at h2
  rw [wrap_W, wrap_W, wrap_W, wrap_W, h0, h1, h2, Sha.or_W, Sha.or_W, Sha.or_W]
theorem grown_cell {w w' : World} {row : Option Nat} {g o : Nat} {v : Value} (hg : w.grownBy w' row) (hlt : g < w.heap.size) (hr : some g ≠ row) (h : w.cell? ⟨g, o, none⟩ = some v) : w'.cell? ⟨g, o, none⟩ = some v := by
  have h1 : w.rangeAt g o [v] := fun j u hj => by
    have : j = 0 := by have := (List.getElem?_eq_some_iff.1 hj).1; simp at this; omega
    subst this
    simp at hj
    subst hj
    exact h
  exact rangeAt_grown h1 hg hlt hr 0 v rfl

set_option maxHeartbeats 10000000 in
set_option maxRecDepth 100000 in
theorem block_any (hv : Sha.V) (b : List UInt8) (hb64 : b.length = 64) (w : World) (H ho hc g og gc kb : Nat) (hH : w.rangeAt H ho (Sha.wv hv.toList)) (hG : w.rangeAt g og (bv b)) (hK : w.rangeAt kb 0 (Sha.wv Sha.Ks))
    (lH : H < w.heap.size) (lg : g < w.heap.size) (lk : kb < w.heap.size) :
    Calls Tryd.prog 107 #[.slice (some ⟨H, ho, none⟩) 8 hc, .slice (some ⟨g, og, none⟩) 64 gc, .slice (some ⟨kb, 0, none⟩) 64 64] w fun e w' =>
      ∃ n, e = .returned (.slice (some ⟨n, 0, none⟩) 8 8) ∧ w'.rangeAt n 0 (Sha.wv (Sha.block hv b).toList) ∧ w.heap.size ≤ n ∧ n < w'.heap.size ∧ Below w.heap.size w w' := by
  obtain ⟨ks, hks⟩ : ∃ ks : List Sha.W, ks = Sha.Ks := ⟨_, rfl⟩
  rw [← hks] at hK
  have HKS := Lib.hid hks
  have HH := Lib.hid hH
  have HG := Lib.hid hG
  have HK := Lib.hid hK
  clear hks hH hG hK
  go_enter Tryd.func107, Tryd.ntmps107
  go_wp2_with fail
  go_loopg [7, 8] 16 (fun gk v i wr => ∃ t : Nat, t + gk = 16 ∧ i = .int .i64 (t : Nat) ∧ Own wr w.heap.size 1 v t (Sha.wv (Sha.sched b t)) ∧ Below w.heap.size w wr)
  case atStart => exact ⟨0, by omega, rfl, Own.nil _ _ _, Below.refl _ _⟩
  case round =>
    obtain ⟨t, ht, rfl, hown, hb⟩ := hrel
    obtain ⟨ao, cap, rfl, hc1, hc2⟩ := hown.shape
    have hsz := hb.size
    by_cases hlt : t < 16
    · -- DEV[
      have hlt' : (t : Int) < 16 := by omega
      have hbyte : ∀ i, i < 4 → wr.cell? ⟨g, og + (4 * t + i), none⟩ = some (.int .u8 ((Sha.byteW (b.getD (4 * t + i) 0)).toNat : Int)) := fun i hi => by
        have h := rangeAt_below HG.out hb lg (4 * t + i) _ (bv_at b (4 * t + i) (by omega))
        rw [h, Sha.byteW_toNat]
      have c0 := hbyte 0 (by omega)
      have c1 := hbyte 1 (by omega)
      have c2 := hbyte 2 (by omega)
      have c3 := hbyte 3 (by omega)
      rw [Nat.add_zero] at c0
      have HW : Hid (Sha.sched b (t + 1) = Sha.sched b t ++ [Sha.word b t]) := Lib.hid (by simp only [Sha.sched]; rw [if_pos hlt])
      have HWD : Hid (Sha.word b t = (Sha.byteW (b.getD (4 * t) 0) <<< 24) ||| (Sha.byteW (b.getD (4 * t + 1) 0) <<< 16) ||| (Sha.byteW (b.getD (4 * t + 2) 0) <<< 8) ||| Sha.byteW (b.getD (4 * t + 3) 0)) := Lib.hid rfl
      generalize Sha.byteW (b.getD (4 * t) 0) = b0 at c0 HWD
      generalize Sha.byteW (b.getD (4 * t + 1) 0) = b1 at c1 HWD
      generalize Sha.byteW (b.getD (4 * t + 2) 0) = b2 at c2 HWD
      generalize Sha.byteW (b.getD (4 * t + 3) 0) = b3 at c3 HWD
      clear hbyte
      have w00 : IntKind.i64.wrap (4 * (t : Int)) = 4 * (t : Int) := wrap_i64_in (by omega) (by omega)
      have w01 : IntKind.i64.wrap (4 * (t : Int) + 1) = 4 * (t : Int) + 1 := wrap_i64_in (by omega) (by omega)
      have w02 : IntKind.i64.wrap (4 * (t : Int) + 2) = 4 * (t : Int) + 2 := wrap_i64_in (by omega) (by omega)
      have w03 : IntKind.i64.wrap (4 * (t : Int) + 3) = 4 * (t : Int) + 3 := wrap_i64_in (by omega) (by omega)
      have n0 : (0 : Int) ≤ 4 * (t : Int) := by omega
      have n1 : (0 : Int) ≤ 4 * (t : Int) + 1 := by omega
      have n2 : (0 : Int) ≤ 4 * (t : Int) + 2 := by omega
      have n3 : (0 : Int) ≤ 4 * (t : Int) + 3 := by omega
      have l0 : 4 * (t : Int) < 64 := by omega
      have l1 : 4 * (t : Int) + 1 < 64 := by omega
      have l2 : 4 * (t : Int) + 2 < 64 := by omega
      have l3 : 4 * (t : Int) + 3 < 64 := by omega
      have m0 : (4 * (t : Int)).toNat = 4 * t := by omega
      have m1 : (4 * (t : Int) + 1).toNat = 4 * t + 1 := by omega
      have m2 : (4 * (t : Int) + 2).toNat = 4 * t + 2 := by omega
      have m3 : (4 * (t : Int) + 3).toNat = 4 * t + 3 := by omega
      go_wp2_with fail
      go_region_held_law (fun w' => w'.cell? ⟨g, og + 4 * t, none⟩ = some (.int .u8 (b0.toNat : Int)) ∧ w'.cell? ⟨g, og + (4 * t + 1), none⟩ = some (.int .u8 (b1.toNat : Int)) ∧ w'.cell? ⟨g, og + (4 * t + 2), none⟩ = some (.int .u8 (b2.toNat : Int)) ∧ w'.cell? ⟨g, og + (4 * t + 3), none⟩ = some (.int .u8 (b3.toNat : Int))) (first | (go_keep; done) | exact ⟨hk4 _ _ c0, hk4 _ _ c1, hk4 _ _ c2, hk4 _ _ c3⟩) (first | (refine step_app_u32 rfl _ _ _ rfl w.heap.size (.slice ao t cap) t (Sha.wv (Sha.sched b t)) rfl (hown.drew.alloc _) _ 1 [.int .u32 _] rfl (src_u32 _ _ _ _ 1 (by simp [World.cell?_alloc_at]; rfl)) (by omega) (by simp; omega) ?_; intro v2 w2 hown2 hgrow2 _; have hk4 : ∀ o u, wr.cell? ⟨g, o, none⟩ = some u → w2.cell? ⟨g, o, none⟩ = some u := fun o u h => grown_cell hgrow2 (by simp; omega) (fun h => by have := hown.lt _ h.symm; omega) ((World.cell?_alloc_past _ _ _ (by omega)).trans h)))
      rw [word_val, ← HWD.out] at hown2
      have hb2 : Below w.heap.size w w2 := Below.grown ((hb.alloc (by omega) _).drew) hgrow2 (by simp; omega) (fun k hk => by have := hown.lt k hk; omega)
      have hs2 : w.heap.size ≤ w2.heap.size := hb2.size
      clear hown hb hgrow2 hk4 c0 c1 c2 c3 w00 w01 w02 w03 n0 n1 n2 n3 l0 l1 l2 l3 m0 m1 m2 m3
      go_wp2_with fail
      go_roundg (gk - 1)
      case measure => omega
      case rel => exact ⟨t + 1, by omega, by go_num, by rw [HW.out, Sha.wv_append]; exact hown2, hb2⟩
      -- ]DEV
    · obtain rfl : gk = 0 := by omega
      obtain rfl : t = 16 := by omega
      clear hlt ht
      go_wp2_with fail
      go_loopg [7, 9] 48 (fun gk v i wr => ∃ t : Nat, t + gk = 64 ∧ 16 ≤ t ∧ i = .int .i64 (t : Nat) ∧ Own wr w.heap.size 1 v t (Sha.wv (Sha.sched b t)) ∧ Below w.heap.size w wr)
      case atStart => exact ⟨16, by omega, by omega, rfl, hown, hb⟩
      case round =>
        clear hown hb hc1 hc2
        obtain ⟨t, ht, h16, rfl, hown, hb⟩ := hrel
        obtain ⟨ag, ao, cap, hv0, hg1, hg2, hc1, hc2, hr, _⟩ := hown.place (by omega)
        subst hv0
        have hsz := hb.size
        by_cases hlt : t < 64
        · -- DEV[
          have c15 := hr (t - 15) _ (Sha.wv_at (Sha.sched b t) (t - 15) (by rw [Sha.sched_length]; omega))
          have c2 := hr (t - 2) _ (Sha.wv_at (Sha.sched b t) (t - 2) (by rw [Sha.sched_length]; omega))
          have c16 := hr (t - 16) _ (Sha.wv_at (Sha.sched b t) (t - 16) (by rw [Sha.sched_length]; omega))
          have c7 := hr (t - 7) _ (Sha.wv_at (Sha.sched b t) (t - 7) (by rw [Sha.sched_length]; omega))
          have hm : Sha.sched b (t + 1) = Sha.sched b t ++ [Sha.nextW (Sha.sched b t) t] := by simp only [Sha.sched]; rw [if_neg (by omega)]
          unfold Sha.nextW at hm
          have l16 := Sha.wv_at (Sha.sched b t) (t - 16) (by rw [Sha.sched_length]; omega)
          have l7 := Sha.wv_at (Sha.sched b t) (t - 7) (by rw [Sha.sched_length]; omega)
          generalize (Sha.sched b t).getD (t - 15) 0 = x15 at c15 hm
          generalize (Sha.sched b t).getD (t - 2) 0 = x2 at c2 hm
          generalize (Sha.sched b t).getD (t - 16) 0 = x16 at c16 hm l16
          generalize (Sha.sched b t).getD (t - 7) 0 = x7 at c7 hm l7
          have HM := Lib.hid hm
          have H16 := Lib.hid c16
          have H7 := Lib.hid c7
          have HOWN := Lib.hid hown
          have HL16 := Lib.hid l16
          have HL7 := Lib.hid l7
          clear hm c16 c7 hown hr l16 l7
          have w15 : wrap64 ((t : Int) - 15) = (t : Int) - 15 := by unfold wrap64; omega
          have w02 : wrap64 ((t : Int) - 2) = (t : Int) - 2 := by unfold wrap64; omega
          have n15 : (0 : Int) ≤ (t : Int) - 15 := by omega
          have n02 : (0 : Int) ≤ (t : Int) - 2 := by omega
          have m15 : ((t : Int) - 15).toNat = t - 15 := by omega
          have m02 : ((t : Int) - 2).toNat = t - 2 := by omega
          have l15 : (t : Int) - 15 < t := by omega
          have l02 : (t : Int) - 2 < t := by omega
          have lt64 : (t : Int) < 64 := by omega
          have lt16 : (16 : Int) ≤ (t : Int) := by omega
          go_wp2_with fail
          clear w15 w02 n15 n02 m15 m02 l15 l02 c15 c2
          have c16 := H16.out
          have c7 := H7.out
          have w16 : IntKind.i64.wrap ((t : Int) - 16) = (t : Int) - 16 := wrap_i64_in (by omega) (by omega)
          have w07 : IntKind.i64.wrap ((t : Int) - 7) = (t : Int) - 7 := wrap_i64_in (by omega) (by omega)
          have n16 : (0 : Int) ≤ (t : Int) - 16 := by omega
          have n07 : (0 : Int) ≤ (t : Int) - 7 := by omega
          have m16 : ((t : Int) - 16).toNat = t - 16 := by omega
          have m07 : ((t : Int) - 7).toNat = t - 7 := by omega
          have l16 : (t : Int) - 16 < t := by omega
          have l07 : (t : Int) - 7 < t := by omega
          go_region_held_law (fun w' => w'.cell? ⟨ag, ao + (t - 16), none⟩ = some (.int .u32 (x16.toNat : Int)) ∧ w'.cell? ⟨ag, ao + (t - 7), none⟩ = some (.int .u32 (x7.toNat : Int))) (first | (go_keep; done) | exact ⟨hk4.1, hk4.2⟩) (first | (go_at_call 115; refine (turn_lit _ _ _ (by omega) (by omega)).mono ?_; rintro e w1 ⟨rfl, rfl⟩) | (refine step_app_u32k rfl _ _ _ rfl w.heap.size ag ao cap t (Sha.wv (Sha.sched b t)) rfl (HOWN.out.drew.alloc _) _ 1 [.int .u32 _] rfl (src_u32 _ _ _ _ 1 (by simp [World.cell?_alloc_at]; rfl)) (by omega) (by simp; omega) ?_; intro v2 w2 hown2 hgrow2 hr2; have hk4 : w2.cell? ⟨ag, ao + (t - 16), none⟩ = some (.int .u32 (x16.toNat : Int)) ∧ w2.cell? ⟨ag, ao + (t - 7), none⟩ = some (.int .u32 (x7.toNat : Int)) := ⟨hr2 _ _ HL16.out, hr2 _ _ HL7.out⟩))
          all_goals
            try simp only [IntKind.wrap_u32'] at hown2
            rw [next_ref] at hown2
            have hb2 : Below w.heap.size w w2 := Below.grown ((hb.alloc (by omega) _).drew) hgrow2 (by simp; omega) (fun k hk => by cases hk; exact hg1)
            have hs2 : w.heap.size ≤ w2.heap.size := hb2.size
            clear hgrow2 hk4 hr2 c16 c7 w16 w07 n16 n07 m16 m07 l16 l07 lt64 lt16
            go_wp2_with fail
            go_roundg (gk - 1)
            case measure => omega
            case rel => exact ⟨t + 1, by omega, by omega, by go_num, by rw [HM.out, Sha.wv_append]; exact hown2, hb2⟩
          -- ]DEV
        · obtain rfl : gk = 0 := by omega
          obtain rfl : t = 64 := by omega
          clear hlt ht h16 hown
          have hws : Sha.sched b 64 = Sha.sched64 b := (Sha.sched64_eq b).symm
          have hwl : (Sha.sched b 64).length = 64 := Sha.sched_length b 64
          rw [hws] at hr hwl
          generalize hwe : Sha.sched64 b = ws at hr hwl
          have HWE := Lib.hid hwe
          have HWR := Lib.hid hr
          have HWL := Lib.hid hwl
          clear hws hwl hwe hr
          obtain ⟨w4, hw4⟩ : ∃ w4 : World, w4 = wr := ⟨_, rfl⟩
          subst hw4
          have HH4 := Lib.hid (rangeAt_below HH.out hb lH)
          have hown0 : Own (w4.alloc (.cells #[] 107)) w4.heap.size 1 (.slice (some ⟨w4.heap.size, 0, none⟩) 0 0) 0 [] :=
            ⟨by simp, .inr ⟨w4.heap.size, 0, 0, rfl, Nat.le_refl _, by simp, Nat.le_refl _, by unfold maxLen; omega, fun j u h => by simp at h, fun j hj => by omega⟩⟩
          have hsrc : Src Tryd.prog 1 114 (.slice (some ⟨H, ho, none⟩) 8 hc) 8 (Sha.wv hv.toList) (w4.alloc (.cells #[] 107)) :=
            Src.ofSlice _ Tryd.underlying114 ⟨H, ho, none⟩ 8 hc _ (by simp [Sha.wv, Sha.V.toList]) (fun j u hj => by rw [Addr.add_mid]; exact rangeAt_alloc HH4.out (by omega) _ j u hj) (Sha.wv_one _)
          have HSRC := Lib.hid hsrc
          have HOWN0 := Lib.hid hown0
          clear hown0 hsrc
          go_wp2_with (at_builtin; go_must (refine app_u32 rfl _ _ 114 rfl w4.heap.size _ 0 [] rfl HOWN0.out _ 8 (Sha.wv hv.toList) rfl HSRC.out (by omega) (by simp) ?_))
          intro v5 w5 hown5 hgrow5 _
          have hb5 : Below w4.heap.size w4 w5 := Below.grown ((Below.refl _ _).alloc (Nat.le_refl _) _) hgrow5 (by simp) (fun k hk => by cases hk; exact Nat.le_refl _)
          obtain ⟨vg, vo, vc, hv5, hvg1, hvg2, hvc1, hvc2, hvr, _⟩ := hown5.place (by omega)
          subst hv5
          clear hown5 hgrow5
          go_wp2_with fail
          go_loopg [12, 13] 64 (fun gk v i wr => ∃ r vb vo vc : Nat, r + gk = 64 ∧ i = .int .i64 (r : Nat) ∧ v = .slice (some ⟨vb, vo, none⟩) 8 vc ∧ Below w4.heap.size w4 wr ∧ w4.heap.size ≤ vb ∧ vb < wr.heap.size ∧ wr.rangeAt vb vo (Sha.wv (Sha.rounds ws hv r).toList) ∧ (0 < r → vo = 0 ∧ vc = 8 ∧ wr.there vb 0 8))
          case atStart => exact ⟨0, vg, vo, vc, by omega, rfl, rfl, hb5, hvg1, hvg2, hvr, fun h => by omega⟩
          case round =>
            clear hb5 hvg1 hvg2 hvr hvc1 hvc2
            obtain ⟨r, vb, vo, vc, hr64, rfl, rfl, hb6, hvb1, hvb2, hV, hlast⟩ := hrel
            by_cases hlt : r < 64
            · -- DEV[
              have hK6 := rangeAt_below HK.out (hb.trans (hb6.mono hsz)) lk
              have hW6 := rangeAt_below HWR.out hb6 hg2
              have cK := hK6 r _ (Sha.wv_get _ r (Sha.K r) (by rw [HKS.out]; simp [Sha.Ks, hlt]))
              rw [Nat.zero_add] at cK
              have cW := hW6 r _ (Sha.wv_get _ r (ws.getD r 0) (by rw [List.getElem?_eq_getElem (by rw [HWL.out]; exact hlt)]; simp [List.getD, HWL.out, hlt]))
              have hstep : Hid (Sha.rounds ws hv (r + 1) = Sha.step (Sha.rounds ws hv r) (Sha.K r) (ws.getD r 0)) := Lib.hid rfl
              generalize ws.getD r 0 = xw at cW hstep
              generalize Sha.K r = xk at cK hstep
              generalize Sha.rounds ws hv r = vr at hV hstep
              obtain ⟨xa, xb, xc, xd, xe, xf, xg, xh⟩ := vr
              have v0 := hV 0 _ rfl
              have v1 := hV 1 _ rfl
              have v2 := hV 2 _ rfl
              have v3 := hV 3 _ rfl
              have v4 := hV 4 _ rfl
              have v5 := hV 5 _ rfl
              have v6 := hV 6 _ rfl
              have v7 := hV 7 _ rfl
              rw [Nat.add_zero] at v0
              have HV := Lib.hid hV
              clear hV hK6 hW6 hlast
              have lt64 : (r : Int) < 64 := by omega
              have ge0 : (0 : Int) ≤ (r : Int) := by omega
              have hs6 := hb6.size
              have hsg : IntKind.u32.signed = false := rfl
              go_wp2_with fail
              go_quiet (first | (go_at_call 115; refine Calls.quiet_of_same (turn_lit _ _ _ (by omega) (by omega))))
              go_wp2_with fail
              rw [p_ref xa xb xc xd]
              generalize hxp : Sha.pOf ⟨xa, xb, xc, xd, xe, xf, xg, xh⟩ xk xw = xp
              have HXP := Lib.hid hxp
              clear hxp v0 v1 v2 v3 v4 v5 v6 v7 cW cK lt64 ge0 hsg
              have hVd : (wr.drewN nq).rangeAt vb vo (Sha.wv (Sha.V.toList ⟨xa, xb, xc, xd, xe, xf, xg, xh⟩)) := HV.out
              have hbd : Below w4.heap.size w4 (wr.drewN nq) := ⟨hb6.os, hb6.tape, hb6.output, hb6.size, hb6.block⟩
              have hvd : vb < (wr.drewN nq).heap.size := hvb2
              clear HV hb6 hvb2 hs6
              generalize wr.drewN nq = w6 at *
              have v1 := hVd 1 _ rfl
              have v2 := hVd 2 _ rfl
              have HV := Lib.hid hVd
              clear hVd
              go_quiet (first | (go_at_call 115; refine Calls.quiet_of_same (turn_lit _ _ _ (by omega) (by omega))))
              go_wp2_with fail
              rw [q_ref xa xb xc]
              generalize hxq : Sha.S0 xa + Sha.maj xa xb xc = xq
              have HXQ := Lib.hid hxq
              clear hxq v1 v2
              have hVd : (w6.drewN nq).rangeAt vb vo (Sha.wv (Sha.V.toList ⟨xa, xb, xc, xd, xe, xf, xg, xh⟩)) := HV.out
              have hbd' : Below w4.heap.size w4 (w6.drewN nq) := ⟨hbd.os, hbd.tape, hbd.output, hbd.size, hbd.block⟩
              have hvd' : vb < (w6.drewN nq).heap.size := hvd
              clear HV hbd hvd
              generalize w6.drewN nq = w7 at *
              have v0 := hVd 0 _ rfl
              have v1 := hVd 1 _ rfl
              have v2 := hVd 2 _ rfl
              have v3 := hVd 3 _ rfl
              have v4 := hVd 4 _ rfl
              have v5 := hVd 5 _ rfl
              have v6 := hVd 6 _ rfl
              rw [Nat.add_zero] at v0
              have hs7 := hbd'.size
              clear hVd
              go_region_held_law (fun w' => w'.cell? ⟨vb, vo, none⟩ = some (.int .u32 (xa.toNat : Int)) ∧ w'.cell? ⟨vb, vo + 1, none⟩ = some (.int .u32 (xb.toNat : Int)) ∧ w'.cell? ⟨vb, vo + 2, none⟩ = some (.int .u32 (xc.toNat : Int)) ∧ w'.cell? ⟨vb, vo + 3, none⟩ = some (.int .u32 (xd.toNat : Int)) ∧ w'.cell? ⟨vb, vo + 4, none⟩ = some (.int .u32 (xe.toNat : Int)) ∧ w'.cell? ⟨vb, vo + 5, none⟩ = some (.int .u32 (xf.toNat : Int)) ∧ w'.cell? ⟨vb, vo + 6, none⟩ = some (.int .u32 (xg.toNat : Int))) (first | (go_keep; done) | exact ⟨(World.cell?_alloc_past _ _ _ hvd').trans v0, (World.cell?_alloc_past _ _ _ hvd').trans v1, (World.cell?_alloc_past _ _ _ hvd').trans v2, (World.cell?_alloc_past _ _ _ hvd').trans v3, (World.cell?_alloc_past _ _ _ hvd').trans v4, (World.cell?_alloc_past _ _ _ hvd').trans v5, (World.cell?_alloc_past _ _ _ hvd').trans v6⟩) (fail)
              clear v0 v1 v2 v3 v4 v5 v6
              go_wp2_with fail
              rw [Sha.add_W', Sha.add_W']
              have hrd : Sha.rounds ws hv (r + 1) = ⟨xp + xq, xa, xb, xc, xd + xp, xe, xf, xg⟩ := by
                rw [hstep.out]
                unfold Sha.step
                rw [HXP.out]
                show (⟨xp + (Sha.S0 xa + Sha.maj xa xb xc), xa, xb, xc, xd + xp, xe, xf, xg⟩ : Sha.V) = _
                rw [HXQ.out]
              have HRD := Lib.hid hrd
              clear hrd
              go_roundg (gk - 1)
              case measure => omega
              case rel => exact ⟨r + 1, w7.heap.size, 0, 8, by omega, by go_num, rfl, (hbd'.alloc hs7 _).drew, hs7, by simp, by rw [HRD.out]; exact rangeAt_drew (rangeAt_new w7 _ _), fun _ => ⟨rfl, rfl, there_drew (there_new w7 _ _ 8 (by simp))⟩⟩
              -- ]DEV
            · obtain rfl : gk = 0 := by omega
              obtain rfl : r = 64 := by omega
              obtain ⟨rfl, rfl, hVt⟩ := hlast (by omega)
              clear hlt hr64 hlast
              have hH7 := rangeAt_below HH4.out hb6 (by omega)
              generalize hvr : Sha.rounds ws hv 64 = vr at hV
              have HVR := Lib.hid hvr
              have HB6 := Lib.hid hb6
              have HH7 := Lib.hid hH7
              have hs6 := hb6.size
              clear hvr hb6 hH7
              obtain ⟨w7, hw7⟩ : ∃ w7 : World, w7 = wr := ⟨_, rfl⟩
              subst hw7
              go_wp2_with fail
              go_loopg [18] 8 (fun gk i wr => ∃ k : Nat, k + gk = 8 ∧ i = .int .i64 (k : Nat) ∧ Below w4.heap.size w7 wr ∧ wr.rangeAt vb 0 (Sha.wv (Sha.addL vr hv k)) ∧ wr.there vb 0 8 ∧ vb < wr.heap.size)
              case atStart => exact ⟨0, by omega, rfl, Below.refl _ _, hV, hVt, hvb2⟩
              case round =>
                clear hV hVt hvb2
                obtain ⟨k, hk8, rfl, hb7, hV, hVt, hvb2⟩ := hrel
                by_cases hlt : k < 8
                · -- DEV[
                  have cV := hV k _ (Sha.wv_get _ _ _ (Sha.addL_at vr hv k hlt))
                  have hfr := (hVt k (by omega)).2
                  rw [Nat.zero_add] at cV hfr
                  have cH := (rangeAt_below HH7.out hb7 (by omega)) k _ (Sha.wv_at hv.toList k hlt)
                  have HSET := Lib.hid (Sha.addL_set vr hv k hlt)
                  generalize vr.toList.getD k 0 = xv at cV HSET
                  generalize hv.toList.getD k 0 = xh at cH HSET
                  have HV := Lib.hid hV
                  have HVT := Lib.hid hVt
                  clear hV hVt
                  have lt8 : (k : Int) < 8 := by omega
                  have ge0 : (0 : Int) ≤ (k : Int) := by omega
                  go_wp2_with fail
                  go_region
                  clear cV hfr cH lt8 ge0
                  rw [Sha.add_W']
                  have hs := rangeAt_set HV.out k (.int .u32 (xv + xh).toNat)
                  rw [Sha.wv_set, HSET.out, Nat.zero_add] at hs
                  have hs2 := hb7.setCell (p := ⟨vb, k, none⟩) hvb1 (.int .u32 (xv + xh).toNat)
                  have hs3 := there_setCell HVT.out ⟨vb, k, none⟩ (.int .u32 (xv + xh).toNat)
                  have hs4 : vb < (wr.setCell ⟨vb, k, none⟩ (.int .u32 (xv + xh).toNat)).heap.size := by simp [World.setCell]; exact hvb2
                  have HS1 := Lib.hid hs
                  have HS2 := Lib.hid hs2
                  have HS3 := Lib.hid hs3
                  have HS4 := Lib.hid hs4
                  clear hs hs2 hs3 hs4 HSET
                  go_wp2_with fail
                  go_roundg (gk - 1)
                  case measure => omega
                  case rel => exact ⟨k + 1, by omega, by go_num, HS2.out.drew, rangeAt_drew HS1.out, there_drew HS3.out, HS4.out⟩
                  -- ]DEV
                · obtain rfl : gk = 0 := by omega
                  obtain rfl : k = 8 := by omega
                  clear hlt hk8
                  rw [Sha.addL_all] at hV
                  have hblk : Sha.block hv b = hv.add vr := by
                    unfold Sha.block
                    rw [HWE.out, Sha.rounds64_eq, HVR.out, add_comm_V]
                  have HV := Lib.hid hV
                  have HBLK := Lib.hid hblk
                  clear hV hVt hblk
                  go_wp2_with fail
                  go_ret
                  exact ⟨vb, rfl, by rw [HBLK.out]; exact HV.out, by omega, hvb2, hb.trans ((HB6.out.mono hsz).trans (hb7.mono hsz))⟩
end Go.Proofs.YtpdbcahiipbhnaaDoor
