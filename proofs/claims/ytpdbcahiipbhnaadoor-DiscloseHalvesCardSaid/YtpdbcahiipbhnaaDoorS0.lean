import Derived.Test.YtpdbcahiipbhnaaDoorTabs
import Derived.BigQuiet
import Derived.Deep.QuietTactic
import Derived.Deep.RegionHeld3
import Derived.Deep.DeepCutAuto
import Derived.Laws.CopyOwn
import Derived.Deep.LoopGhost
import Derived.Handy
namespace Go.Proofs.YtpdbcahiipbhnaaDoor
open Go.RowKit

theorem pad_test1 (n k : Nat) (h : k < Sha.zeros n) : (((n : Int) + 1 + (k : Int)) % 64 != 56) = true := by unfold Sha.zeros at h; simp; omega
theorem pad_test2 (n : Nat) : (((n : Int) + 1 + (Sha.zeros n : Int)) % 64 != 56) = false := by unfold Sha.zeros; simp; omega
theorem zeros_lt (n : Nat) : Sha.zeros n < 64 := by unfold Sha.zeros; omega

/-- WHAT HOLDS THROUGHOUT: the result's eight cells may be written; the padded text lies in a block of its own; so do the eight words. -/
structure St (w wr : World) (g og : Nat) (pad : List UInt8) (H : Nat) (h : Sha.V) : Prop where
  below : Below w.heap.size w wr
  res : wr.there w.heap.size 0 8
  text : wr.rangeAt g og (bv pad)
  words : wr.rangeAt H 0 (Sha.wv h.toList)
  wordsW : wr.there H 0 8
  g1 : w.heap.size < g
  g2 : g < H
  h2 : H < wr.heap.size

theorem St.next {w wr wr' : World} {B g og : Nat} {pad : List UInt8} {H : Nat} {h : Sha.V} (s : St w wr g og pad H h) (hb : Below B wr wr') (hB : H < B) : St w wr' g og pad H h := by
  have := s.g1; have := s.g2; have := s.h2
  exact ⟨s.below.trans (hb.mono (by omega)), there_below s.res hb (by omega), rangeAt_below s.text hb (by omega), rangeAt_below s.words hb hB, there_below s.wordsW hb hB, s.g1, s.g2, Nat.lt_of_lt_of_le s.h2 hb.size⟩

/-- A byte of the block at hand. -/
theorem St.byte {w wr : World} {g og : Nat} {pad : List UInt8} {H : Nat} {h : Sha.V} (s : St w wr g og pad H h) (j i : Nat) (hj : 64 * j + 64 ≤ pad.length) (hi : i < 64) :
    wr.cell? ⟨g, og + 64 * j + i, none⟩ = some (.int .u8 (((Sha.blk pad j).getD i 0).toNat : Int)) := by
  rw [Sha.blk_getD _ _ _ hi, Nat.add_assoc]
  exact s.text (64 * j + i) _ (bv_at _ _ (by omega))

/-- An eight-word array, stored whole into a new block. -/
theorem eight_new {w0 w4 : World} {B : Nat} (hb : Below B w0 w4) (hB : B ≤ w4.heap.size) (v : Sha.V) :
    Below B w0 ((w4.alloc (.cells #[.int .u32 0, .int .u32 0, .int .u32 0, .int .u32 0, .int .u32 0, .int .u32 0, .int .u32 0, .int .u32 0] 108)).setCells w4.heap.size 0 (Sha.wv v.toList)) ∧
    ((w4.alloc (.cells #[.int .u32 0, .int .u32 0, .int .u32 0, .int .u32 0, .int .u32 0, .int .u32 0, .int .u32 0, .int .u32 0] 108)).setCells w4.heap.size 0 (Sha.wv v.toList)).rangeAt w4.heap.size 0 (Sha.wv v.toList) ∧
    ((w4.alloc (.cells #[.int .u32 0, .int .u32 0, .int .u32 0, .int .u32 0, .int .u32 0, .int .u32 0, .int .u32 0, .int .u32 0] 108)).setCells w4.heap.size 0 (Sha.wv v.toList)).there w4.heap.size 0 8 ∧
    w4.heap.size < ((w4.alloc (.cells #[.int .u32 0, .int .u32 0, .int .u32 0, .int .u32 0, .int .u32 0, .int .u32 0, .int .u32 0, .int .u32 0] 108)).setCells w4.heap.size 0 (Sha.wv v.toList)).heap.size := by
  have hg := grownBy_setCells (w4.alloc (.cells #[.int .u32 0, .int .u32 0, .int .u32 0, .int .u32 0, .int .u32 0, .int .u32 0, .int .u32 0, .int .u32 0] 108)) w4.heap.size 0 (Sha.wv v.toList)
  have hth := there_new w4 #[.int .u32 0, .int .u32 0, .int .u32 0, .int .u32 0, .int .u32 0, .int .u32 0, .int .u32 0, .int .u32 0] 108 8 (by simp)
  exact ⟨(hb.alloc hB _).grown hg (by simp; omega) (fun k hk => by cases hk; exact hB), World.rangeAt_setCells_same _ _ _ _ hth, World.there_setCells hth _ _ _, by rw [size_setCells]; simp⟩

/-- The eight cells of such an array, one by one. -/
theorem eight_at {w : World} {b : Nat} {a b1 c d e f g h : Sha.W} (hr : w.rangeAt b 0 (Sha.wv (Sha.V.toList ⟨a, b1, c, d, e, f, g, h⟩))) :
    w.cell? ⟨b, 0, none⟩ = some (.int .u32 a.toNat) ∧ w.cell? ⟨b, 1, none⟩ = some (.int .u32 b1.toNat) ∧ w.cell? ⟨b, 2, none⟩ = some (.int .u32 c.toNat) ∧ w.cell? ⟨b, 3, none⟩ = some (.int .u32 d.toNat) ∧
    w.cell? ⟨b, 4, none⟩ = some (.int .u32 e.toNat) ∧ w.cell? ⟨b, 5, none⟩ = some (.int .u32 f.toNat) ∧ w.cell? ⟨b, 6, none⟩ = some (.int .u32 g.toNat) ∧ w.cell? ⟨b, 7, none⟩ = some (.int .u32 h.toNat) :=
  ⟨hr 0 _ rfl, hr 1 _ rfl, hr 2 _ rfl, hr 3 _ rfl, hr 4 _ rfl, hr 5 _ rfl, hr 6 _ rfl, hr 7 _ rfl⟩

/-- Two new blocks behind some draws: what was there is as it was. -/
theorem two_new {w0 wr : World} {B Vb n : Nat} {O1 O2 : Obj} {xs : List Value} {k : Nat} (hb : Below B w0 wr) (hB : B ≤ wr.heap.size) (hlt : Vb < wr.heap.size) (hr : wr.rangeAt Vb 0 xs) (ht : wr.there Vb 0 k) :
    Below B w0 (((wr.drewN n).alloc O1).alloc O2) ∧ (((wr.drewN n).alloc O1).alloc O2).rangeAt Vb 0 xs ∧ (((wr.drewN n).alloc O1).alloc O2).there Vb 0 k ∧ Vb < (((wr.drewN n).alloc O1).alloc O2).heap.size := by
  have hd : Below B w0 (wr.drewN n) := ⟨hb.os, hb.tape, hb.output, hb.size, hb.block⟩
  have hr' : (wr.drewN n).rangeAt Vb 0 xs := hr
  have ht' : (wr.drewN n).there Vb 0 k := ht
  exact ⟨(hd.alloc (by simp; omega) _).alloc (by simp; omega) _, rangeAt_alloc (rangeAt_alloc hr' (by simp; omega) _) (by simp; omega) _, there_alloc (there_alloc ht' (by simp; omega) _) (by simp; omega) _, by simp; omega⟩

/-- 'copy(v[1:], v[:7])': the words move one place on. -/
theorem copy_shift {w0 wx : World} {B b : Nat} {xa xb xc xd xe xf xg xh : Sha.W} (hb : Below B w0 wx) (hB : B ≤ b) (hr : wx.rangeAt b 0 (Sha.wv (Sha.V.toList ⟨xa, xb, xc, xd, xe, xf, xg, xh⟩))) (ht : wx.there b 0 8) (hlt : b < wx.heap.size) :
    (∀ ty, (Builtin.copy_ #[114, 114] ty #[.slice (some ⟨b, 1, none⟩) 7 7, .slice (some ⟨b, 0, none⟩) 7 8]).run Tryd.prog wx = .ok (.int .i64 7) (wx.setCells b 1 (Sha.wv [xa, xb, xc, xd, xe, xf, xg]))) ∧
    Below B w0 (wx.setCells b 1 (Sha.wv [xa, xb, xc, xd, xe, xf, xg])) ∧ (wx.setCells b 1 (Sha.wv [xa, xb, xc, xd, xe, xf, xg])).rangeAt b 0 (Sha.wv (Sha.V.toList ⟨xa, xa, xb, xc, xd, xe, xf, xg⟩)) ∧
    (wx.setCells b 1 (Sha.wv [xa, xb, xc, xd, xe, xf, xg])).there b 0 8 ∧ b < (wx.setCells b 1 (Sha.wv [xa, xb, xc, xd, xe, xf, xg])).heap.size := by
  have h1 : wx.there b 1 7 := fun j hj => by have := ht (1 + j) (by omega); rwa [Nat.zero_add] at this
  have hl : (Sha.wv [xa, xb, xc, xd, xe, xf, xg]).length = 7 := by simp [Sha.wv]
  refine ⟨fun ty => ?_, hb.grown (grownBy_setCells _ _ _ _) (by omega) (fun k hk => by cases hk; exact hB), ?_, World.there_setCells ht _ _ _, by rw [size_setCells]; exact hlt⟩
  · have := run_copy_cells (P := Tryd.prog) wx 114 114 ty 107 b 1 7 7 ⟨b, 0, none⟩ 7 8 (Sha.wv [xa, xb, xc, xd, xe, xf, xg]) Tryd.underlying114 (by kernel_rfl) (by rw [hl]; rfl) (fun j u hj => ?_) (fun j hj => (h1 j (by omega)).1) (fun j hj => (h1 j (by omega)).2) (Sha.wv_one _)
    · rw [this, hl]; rfl
    · rw [Addr.add_mid]
      refine hr j u ?_
      have hj7 : j < 7 := by have := (List.getElem?_eq_some_iff.1 hj).1; omega
      match j, hj7 with
      | 0, _ => exact hj
      | 1, _ => exact hj
      | 2, _ => exact hj
      | 3, _ => exact hj
      | 4, _ => exact hj
      | 5, _ => exact hj
      | 6, _ => exact hj
  · intro j u hj
    cases j with
    | zero =>
      have := World.rangeAt_setCells_apart (fun i u hi => hr i u (by match i, hi with | 0, hi => exact hi) : wx.rangeAt b 0 (Sha.wv [xa])) b 1 (Sha.wv [xa, xb, xc, xd, xe, xf, xg]) (.inr (.inl (by simp [Sha.wv])))
      exact this 0 u hj
    | succ j =>
      have := World.rangeAt_setCells_same wx b 1 (Sha.wv [xa, xb, xc, xd, xe, xf, xg]) (by rw [hl]; exact h1) j u hj
      rwa [show 0 + (j + 1) = 1 + j by omega]

/-- The two stores that end a round. -/
theorem round_end {w0 wy : World} {B b : Nat} {xa xb xc xd xe xf xg xp xq : Sha.W} (hb : Below B w0 wy) (hB : B ≤ b) (hr : wy.rangeAt b 0 (Sha.wv (Sha.V.toList ⟨xa, xa, xb, xc, xd, xe, xf, xg⟩))) (ht : wy.there b 0 8) (hlt : b < wy.heap.size) :
    Below B w0 ((wy.setCell ⟨b, 4, none⟩ (.int .u32 (xd + xp).toNat)).setCell ⟨b, 0, none⟩ (.int .u32 (xp + xq).toNat)) ∧
    ((wy.setCell ⟨b, 4, none⟩ (.int .u32 (xd + xp).toNat)).setCell ⟨b, 0, none⟩ (.int .u32 (xp + xq).toNat)).rangeAt b 0 (Sha.wv (Sha.V.toList ⟨xp + xq, xa, xb, xc, xd + xp, xe, xf, xg⟩)) ∧
    ((wy.setCell ⟨b, 4, none⟩ (.int .u32 (xd + xp).toNat)).setCell ⟨b, 0, none⟩ (.int .u32 (xp + xq).toNat)).there b 0 8 ∧
    b < ((wy.setCell ⟨b, 4, none⟩ (.int .u32 (xd + xp).toNat)).setCell ⟨b, 0, none⟩ (.int .u32 (xp + xq).toNat)).heap.size := by
  refine ⟨(hb.setCell (p := ⟨b, 4, none⟩) hB _).setCell (p := ⟨b, 0, none⟩) hB _, ?_, there_setCell (there_setCell ht _ _) _ _, by simp [World.setCell]; omega⟩
  exact rangeAt_set (rangeAt_set hr 4 (.int .u32 (xd + xp).toNat)) 0 (.int .u32 (xp + xq).toNat)

/-- What the statement that computes a word of the schedule leaves, whatever the order of its two calls. -/
theorem next_word {wq wr : World} {Wb t n : Nat} {A B : Obj} {b : List UInt8} {y : Sha.W} {V : Int} (hV : V = (y.toNat : Int)) (hb : Below Wb wq wr) (hlt : Wb < wr.heap.size)
    (hW : wr.rangeAt Wb 0 (Sha.wv (Sha.part b t 0))) (hWt : wr.there Wb 0 64) :
    Below Wb wq ((((wr.drewN n).alloc A).setCell ⟨Wb, t, none⟩ (.int .u32 V)).alloc B) ∧ ((((wr.drewN n).alloc A).setCell ⟨Wb, t, none⟩ (.int .u32 V)).alloc B).rangeAt Wb 0 (Sha.wv (Sha.part b t y)) ∧
    ((((wr.drewN n).alloc A).setCell ⟨Wb, t, none⟩ (.int .u32 V)).alloc B).there Wb 0 64 ∧ Wb < ((((wr.drewN n).alloc A).setCell ⟨Wb, t, none⟩ (.int .u32 V)).alloc B).heap.size := by
  subst hV
  have hd : Below Wb wq (wr.drewN n) := ⟨hb.os, hb.tape, hb.output, hb.size, hb.block⟩
  have h1 := (hd.alloc (by simp; omega) A).setCell (p := ⟨Wb, t, none⟩) (Nat.le_refl _) (.int .u32 y.toNat)
  have s1 : Wb < ((wr.drewN n).alloc A).heap.size := by simp; omega
  have s2 : Wb < (((wr.drewN n).alloc A).setCell ⟨Wb, t, none⟩ (.int .u32 y.toNat)).heap.size := by simp [World.setCell]; omega
  have hr : (wr.drewN n).rangeAt Wb 0 (Sha.wv (Sha.part b t 0)) := hW
  have hth : (wr.drewN n).there Wb 0 64 := hWt
  have h2 := rangeAt_set (rangeAt_alloc hr (by simp; omega) A) t (.int .u32 y.toNat)
  rw [Sha.wv_set, Sha.part_set, Nat.zero_add] at h2
  exact ⟨h1.alloc (by omega) B, rangeAt_alloc h2 s2 B, there_alloc (there_setCell (there_alloc hth (by simp; omega) A) _ _) s2 B, by simp [World.setCell]; omega⟩

set_option maxHeartbeats 4000000 in
set_option maxRecDepth 100000 in
theorem sum_any (s : ByteArray) (w : World) (hs : s.size ≤ 1000000) (ht : Tabs w) :
    Calls Tryd.prog 84 #[.string s] w fun e w' => e = .returned (.agg (Sha.wv (Sha.sum s.data.toList).toList).toArray) ∧ Below w.heap.size w w' := by
  have hcv := fun (w : World) => run_bytes_of_string (P := Tryd.prog) w 9 106 5 s Tryd.underlying9 Tryd.underlying106 Tryd.underlying5
  have HT := Lib.hid ht; clear ht
  obtain ⟨ks, hks⟩ : ∃ ks : List Sha.W, ks = Sha.Ks := ⟨_, rfl⟩
  have HKS := Lib.hid hks; clear hks
  go_enter Tryd.func84, Tryd.ntmps84
  go_wp2_with (at_builtin; go_must (refine app_u8 rfl _ _ 106 rfl (w.heap.size + 1) _ s.size (bv s.data.toList) rfl ?qown _ 1 [.int .u8 128] rfl ?qsrc ?qb ?qc ?_))
  case qown =>
    have h := Own_ofBytes (w.alloc (.cells #[.int .u32 0, .int .u32 0, .int .u32 0, .int .u32 0, .int .u32 0, .int .u32 0, .int .u32 0, .int .u32 0] 108)) s 5 (by unfold maxLen; omega)
    simp only [World.size_alloc] at h
    exact Own.drew (h.alloc _)
  case qsrc => exact src_u8 _ _ _ 128 1 (by simp [World.cell?_alloc_at])
  case qb => omega
  case qc => simp
  clear hcv
  intro v1 w1 hown hgrow hnn
  have hb : Below w.heap.size w w1 := by
    refine Below.grown ?_ hgrow (by simp; omega) (fun k hk => by cases hk; show _ ≤ _; simp)
    go_grown
  have hR : w1.there w.heap.size 0 8 := by
    refine there_grown ?_ hgrow (by simp; omega) (by simp [Value.ownBlock])
    exact there_drew (there_alloc (there_alloc (there_new _ _ _ _ (by simp)) (by simp) _) (by simp; omega) _)
  have hsz : w.heap.size + 1 ≤ w1.heap.size := by have := hgrow.size; simp at this; omega
  clear hgrow hnn
  go_wp2_with fail
  go_loopg [3] (Sha.zeros s.size) (fun gk v wr => ∃ k : Nat, k + gk = Sha.zeros s.size ∧ Own wr (w.heap.size + 1) 1 v (s.size + 1 + k) (bv (s.data.toList ++ [128] ++ List.replicate k 0)) ∧
    Below w.heap.size w wr ∧ wr.there w.heap.size 0 8 ∧ w.heap.size + 1 ≤ wr.heap.size)
  case atStart => exact ⟨0, by omega, by simpa [bv] using hown, hb, hR, hsz⟩
  case round =>
    clear hown hb hR hsz
    obtain ⟨k, hk, hown, hb, hR, hsz⟩ := hrel
    obtain ⟨ao, cap, rfl, hc1, hc2⟩ := hown.shape
    have hz := zeros_lt s.size
    by_cases hlt : k < Sha.zeros s.size
    · have ht := pad_test1 s.size k hlt
      go_wp2_with (at_builtin; go_must (refine app_u8 rfl _ _ 106 rfl (w.heap.size + 1) _ _ _ rfl (hown.alloc _) _ 1 [.int .u8 0] rfl (src_u8 _ _ _ 0 1 (by simp [World.cell?_alloc_at])) (by omega) (by simp; omega) ?_))
      intro v2 w2 hown2 hgrow2 _
      have hb2 := (hb.alloc (by omega) _).grown hgrow2 (by simp; omega) (fun g hg => by have := hown.lt g hg; omega)
      have hR2 := there_grown (there_alloc hR (by omega) _) hgrow2 (by simp; omega) (fun h => by have := hown.lt _ h.symm; omega)
      have hsz2 : w.heap.size + 1 ≤ w2.heap.size := by have := hgrow2.size; simp at this; omega
      clear hown hb hR hsz hgrow2
      go_wp2_with fail
      go_roundg (gk - 1)
      case measure => omega
      case rel => exact ⟨k + 1, by omega, by simpa [bv, List.replicate_succ', Nat.add_assoc] using hown2, hb2, hR2, hsz2⟩
    · obtain rfl : gk = 0 := by omega
      obtain rfl : k = Sha.zeros s.size := by omega
      have ht := pad_test2 s.size
      clear hlt hk
      go_wp2_with fail
      go_loopg [3, 4] 8 (fun gk v i wr => ∃ j : Nat, j + gk = 8 ∧ i = .int .i64 (56 - 8 * (j : Int)) ∧ Own wr (w.heap.size + 1) 1 v (s.size + 1 + Sha.zeros s.size + j) (bv (s.data.toList ++ [128] ++ List.replicate (Sha.zeros s.size) 0 ++ (Sha.lenBytes s.size).take j)) ∧
        Below w.heap.size w wr ∧ wr.there w.heap.size 0 8 ∧ w.heap.size + 1 ≤ wr.heap.size)
      case atStart => exact ⟨0, by omega, rfl, by simpa using hown, hb, hR, hsz⟩
      case round =>
        clear hown hb hR hsz hc1 hc2
        obtain ⟨j, hj, rfl, hown, hb, hR, hsz⟩ := hrel
        obtain ⟨ao, cap, rfl, hc1, hc2⟩ := hown.shape
        by_cases hlt : j < 8
        · have h0 : 0 ≤ 56 - 8 * (j : Int) := by omega
          have h0' : 56 - 8 * (j : Int) ≤ 56 := by omega
          have HV := Lib.hid (Sha.lenBytes_val s.size j hlt)
          have HT2 := Lib.hid (Sha.lenBytes_take s.size j hlt)
          go_wp2_with (at_builtin; go_must (refine app_u8 rfl _ _ 106 rfl (w.heap.size + 1) _ _ _ rfl (hown.alloc _) _ 1 [.int .u8 _] rfl (src_u8 _ _ _ _ 1 (by simp [World.cell?_alloc_at]; rfl)) (by omega) (by simp; omega) ?_))
          intro v2 w2 hown2 hgrow2 _
          have hb2 := (hb.alloc (by omega) _).grown hgrow2 (by simp; omega) (fun g hg => by have := hown.lt g hg; omega)
          have hR2 := there_grown (there_alloc hR (by omega) _) hgrow2 (by simp; omega) (fun h => by have := hown.lt _ h.symm; omega)
          have hsz2 : w.heap.size + 1 ≤ w2.heap.size := by have := hgrow2.size; simp at this; omega
          rw [← HV.out] at hown2
          clear hown hb hR hsz hgrow2
          go_wp2_with fail
          go_roundg (gk - 1)
          case measure => omega
          case rel => exact ⟨j + 1, by omega, by congr 1; omega, by rw [HT2.out]; simpa [bv, Nat.add_assoc] using hown2, hb2, hR2, hsz2⟩
        · obtain rfl : gk = 0 := by omega
          obtain rfl : j = 8 := by omega
          clear hlt hj
          have hfull : s.data.toList ++ [128] ++ List.replicate (Sha.zeros s.size) 0 ++ (Sha.lenBytes s.size).take 8 = Sha.pad s.data.toList := by
            rw [List.take_of_length_le (by simp [Sha.lenBytes])]; simp [Sha.pad]
          rw [hfull] at hown
          clear hfull
          have hF := rangeAt_below HT.out.first hb HT.out.ltFirst
          have HF := Lib.hid hF; clear hF
          go_wp2_with (first | (with_reducible refine wpList_load_mid rfl 108 _ rfl 0 0 rfl _ _ HF.out Tryd.underlying108 rfl (by kernel_rfl) ?_) | (with_reducible refine wpList_store_mid rfl 108 _ _ rfl wr.heap.size 0 (Sha.wv Sha.init.toList).toArray rfl rfl (there_new _ _ _ _ (by simp [Sha.wv, Sha.V.toList])) (by kernel_rfl) (all_oneCell_toArray (Sha.wv_one _)) ?_))
          obtain ⟨g, og, cap', hv, hg1, hg2, hc3, hc4, htext, _⟩ := hown.place (by omega)
          cases hv
          have hst : St w ((wr.alloc (.cells #[.int .u32 0, .int .u32 0, .int .u32 0, .int .u32 0, .int .u32 0, .int .u32 0, .int .u32 0, .int .u32 0] 108)).setCells wr.heap.size 0 (Sha.wv Sha.init.toList)) g og (Sha.pad s.data.toList) wr.heap.size Sha.init := by
            have hg := grownBy_setCells (wr.alloc (.cells #[.int .u32 0, .int .u32 0, .int .u32 0, .int .u32 0, .int .u32 0, .int .u32 0, .int .u32 0, .int .u32 0] 108)) wr.heap.size 0 (Sha.wv Sha.init.toList)
            have hth := there_new wr #[.int .u32 0, .int .u32 0, .int .u32 0, .int .u32 0, .int .u32 0, .int .u32 0, .int .u32 0, .int .u32 0] 108 8 (by simp)
            have hb2 := (hb.alloc (by omega) _).grown hg (by simp; omega) (fun k hk => by cases hk; omega)
            exact ⟨hb2, there_grown (there_alloc hR (by omega) _) hg (by simp; omega) (by simp; omega), rangeAt_grown (rangeAt_alloc htext hg2 _) hg (by simp; omega) (by simp; omega),
              World.rangeAt_setCells_same _ _ _ _ hth, World.there_setCells hth _ _ _, by omega, hg2, by rw [size_setCells]; simp⟩
          have hpl := Sha.pad_length s.data.toList
          have hpm := Sha.pad_mod s.data.toList
          have hL : s.size + 1 + Sha.zeros s.size + 8 = 64 * ((Sha.pad s.data.toList).length / 64) := by simp at hpl; have : s.data.size = s.size := rfl; omega
          have HL := Lib.hid hL; clear hL
          have HP := Lib.hid hpl; clear hpl
          clear hpm
          obtain ⟨wo, hwo⟩ : ∃ wo : World, wo = wr := ⟨_, rfl⟩
          subst hwo
          go_frame
          go_loopg [3] ((Sha.pad s.data.toList).length / 64) (fun gk v wr => ∃ j ao c, j + gk = (Sha.pad s.data.toList).length / 64 ∧ v = .slice ao (64 * gk) c ∧ (0 < gk → ao = some ⟨g, og + 64 * j, none⟩) ∧ 64 * gk ≤ c ∧ c ≤ maxLen ∧
            St w wr g og (Sha.pad s.data.toList) wo.heap.size (Sha.blocks (Sha.pad s.data.toList) j))
          case atStart =>
            refine ⟨0, _, _, by omega, by rw [← HL.out]; rfl, fun _ => rfl, by rw [← HL.out]; exact hc3, hc4, hst⟩
          case round =>
            clear hst hown htext hb hR hsz hc1 hc3 hc4 hc2 
            obtain ⟨j, ao, c, hj, rfl, hao, hc1, hc2, hst⟩ := hrel
            by_cases hgk : 0 < gk
            · obtain rfl := hao hgk
              clear hao
              obtain ⟨wq, hwq⟩ : ∃ wq : World, wq = wr := ⟨_, rfl⟩
              subst hwq
              have hgk64 : 0 < 64 * (gk : Int) := by omega
              go_wp2_with fail
              have hz64 : (wq.alloc (.cells (Array.replicate 64 (Value.int .u32 0)) 133)).rangeAt wq.heap.size 0 (Sha.wv (Sha.made (Sha.blk (Sha.pad s.data.toList) j) 0)) := by
                rw [← Sha.made_zero]
                exact rangeAt_new wq (Array.replicate 64 (Value.int .u32 0)) 133
              have ht64 := there_new wq (Array.replicate 64 (Value.int .u32 0)) 133 64 (by simp)
              have hb64 := (Below.refl wq.heap.size wq).alloc (Nat.le_refl _) (.cells (Array.replicate 64 (Value.int .u32 0)) 133)
              have HZ := Lib.hid hz64
              have HT64 := Lib.hid ht64
              have HB64 := Lib.hid hb64
              clear hz64 ht64 hb64
              go_loopg [52] 64 (fun g4 v wr => ∃ t, t + g4 = 64 ∧ v = .int .i64 (t : Nat) ∧ Below wq.heap.size wq wr ∧ wr.rangeAt wq.heap.size 0 (Sha.wv (Sha.made (Sha.blk (Sha.pad s.data.toList) j) t)) ∧ wr.there wq.heap.size 0 64 ∧ wq.heap.size < wr.heap.size)
              case atStart => exact ⟨0, by omega, rfl, HB64.out, HZ.out, HT64.out, by simp⟩
              case round =>
                clear HZ HT64 HB64
                obtain ⟨gk4, hgk4⟩ : ∃ n : Nat, n = gk := ⟨_, rfl⟩
                subst hgk4
                obtain ⟨t, ht64, rfl, hb4, hW, hWt, hlt4⟩ := hrel
                by_cases hlt : t < 64
                · by_cases h16 : t < 16
                  ·
                    -- DEV[
                    have hm : Sha.made (Sha.blk (Sha.pad s.data.toList) j) t = Sha.part (Sha.blk (Sha.pad s.data.toList) j) t (Sha.acc (Sha.blk (Sha.pad s.data.toList) j) t 0) := by rw [Sha.made, if_pos hlt]; rfl
                    rw [hm] at hW
                    clear hm
                    have q1 : ¬ c = 4 * t := by omega
                    have q2 : 4 * t + 4 ≤ c := by omega
                    go_wp2_with fail
                    obtain ⟨wp, hwp⟩ : ∃ wp : World, wp = wr := ⟨_, rfl⟩
                    subst hwp
                    go_loopg [65] 4 (fun g5 v wr => ∃ k, k + g5 = 4 ∧ v = .int .i64 (k : Nat) ∧ Below wq.heap.size wq wr ∧ wr.rangeAt wq.heap.size 0 (Sha.wv (Sha.part (Sha.blk (Sha.pad s.data.toList) j) t (Sha.acc (Sha.blk (Sha.pad s.data.toList) j) t k))) ∧ wr.there wq.heap.size 0 64 ∧ wq.heap.size < wr.heap.size)
                    case atStart => exact ⟨0, by omega, rfl, hb4, hW, hWt, hlt4⟩
                    case round =>
                      clear hb4 hW hWt hlt4
                      obtain ⟨k, hk4, rfl, hb4, hW, hWt, hlt4⟩ := hrel
                      by_cases hk : k < 4
                      · have hbyte := (St.next hst hb4 hst.h2).byte j (4 * t + k) (by have := HP.out; omega) (by omega)
                        rw [← Nat.add_assoc] at hbyte
                        have hcur := hW t _ (Sha.wv_get _ _ _ (Sha.part_at _ _ _))
                        rw [Nat.zero_add] at hcur
                        have hfr := (hWt t (by omega)).2
                        rw [Nat.zero_add] at hfr
                        have HA := Lib.hid (Sha.acc_val (Sha.blk (Sha.pad s.data.toList) j) t k)
                        have HS := Lib.hid (fun y => rangeAt_set hW t (Value.int .u32 (BitVec.toNat (w := 32) y)))
                        generalize hcb : (Sha.blk (Sha.pad s.data.toList) j).getD (4 * t + k) 0 = cb at hbyte HA
                        clear hcb
                        go_wp2_with fail
                        rw [HA.out]
                        have hs := HS.out (Sha.acc (Sha.blk (Sha.pad s.data.toList) j) t (k + 1))
                        rw [Sha.wv_set, Sha.part_set, Nat.zero_add] at hs
                        have hs2 := hb4.setCell (p := ⟨wq.heap.size, t, none⟩) (Nat.le_refl _) (.int .u32 (Sha.acc (Sha.blk (Sha.pad s.data.toList) j) t (k + 1)).toNat)
                        have hs3 := there_setCell hWt ⟨wq.heap.size, t, none⟩ (.int .u32 (Sha.acc (Sha.blk (Sha.pad s.data.toList) j) t (k + 1)).toNat)
                        clear hcur hfr hbyte hW hWt hb4
                        go_roundg (gk - 1)
                        case measure => omega
                        case rel => exact ⟨k + 1, by omega, by go_num, hs2, hs, hs3, by simp [World.setCell]; omega⟩
                      · obtain rfl : gk = 0 := by omega
                        obtain rfl : k = 4 := by omega
                        clear hk hk4
                        rw [Sha.acc_four] at hW
                        have hm := Sha.made_succ (Sha.blk (Sha.pad s.data.toList) j) t hlt
                        rw [if_pos h16] at hm
                        rw [hm] at hW
                        clear hm
                        go_wp2_with fail
                        go_roundg (gk4 - 1)
                        case measure => omega
                        case rel => exact ⟨t + 1, by omega, by go_num, hb4, hW, hWt, hlt4⟩
                    -- ]DEV
                  ·
                    -- DEV[
                    have hm : Sha.made (Sha.blk (Sha.pad s.data.toList) j) t = Sha.part (Sha.blk (Sha.pad s.data.toList) j) t 0 := by rw [Sha.made, if_pos hlt]
                    rw [hm] at hW
                    clear hm
                    have c15 := hW (t - 15) _ (Sha.wv_get _ _ _ (Sha.part_old _ _ _ _ (by omega)))
                    have c2 := hW (t - 2) _ (Sha.wv_get _ _ _ (Sha.part_old _ _ _ _ (by omega)))
                    rw [Nat.zero_add] at c15 c2
                    have c16 := hW (t - 16) _ (Sha.wv_get _ _ _ (Sha.part_old _ _ _ _ (by omega)))
                    have c7 := hW (t - 7) _ (Sha.wv_get _ _ _ (Sha.part_old _ _ _ _ (by omega)))
                    rw [Nat.zero_add] at c16 c7
                    generalize hX15 : (Sha.sched (Sha.blk (Sha.pad s.data.toList) j) t).getD (t - 15) 0 = x15 at c15
                    generalize hX2 : (Sha.sched (Sha.blk (Sha.pad s.data.toList) j) t).getD (t - 2) 0 = x2 at c2
                    generalize hX16 : (Sha.sched (Sha.blk (Sha.pad s.data.toList) j) t).getD (t - 16) 0 = x16 at c16
                    generalize hX7 : (Sha.sched (Sha.blk (Sha.pad s.data.toList) j) t).getD (t - 7) 0 = x7 at c7
                    have HX15 := Lib.hid hX15
                    have HX2 := Lib.hid hX2
                    have HX16 := Lib.hid hX16
                    have HX7 := Lib.hid hX7
                    clear hX15 hX2 hX16 hX7
                    have H16 := Lib.hid c16
                    have H7 := Lib.hid c7
                    have ct : wr.cell? ⟨wq.heap.size, t, none⟩ = some (valAt wr ⟨wq.heap.size, t, none⟩) := by have := there_cell hWt t (by omega); rwa [Nat.zero_add] at this
                    have HC := Lib.hid ct
                    clear c16 c7 ct
                    have HW := Lib.hid hW
                    have HWt := Lib.hid hWt
                    clear hW hWt
                    have w15 : IntKind.i64.wrap ((t : Int) - 15) = (t : Int) - 15 := IntWalk.i64_in _ (by omega)
                    have w2 : IntKind.i64.wrap ((t : Int) - 2) = (t : Int) - 2 := IntWalk.i64_in _ (by omega)
                    have n15 : (15 : Int) ≤ t := by omega
                    have n2 : (2 : Int) ≤ t := by omega
                    have n15' : (0 : Int) ≤ (t : Int) - 15 := by omega
                    have n2' : (0 : Int) ≤ (t : Int) - 2 := by omega
                    have m15 : ((t : Int) - 15).toNat = t - 15 := by omega
                    have m2 : ((t : Int) - 2).toNat = t - 2 := by omega
                    have l15 : (t : Int) - 15 < 64 := by omega
                    have l2 : (t : Int) - 2 < 64 := by omega
                    go_wp2_with fail
                    go_quiet (fail)
                    clear w15 w2 n15 n2 n15' n2' m15 m2 l15 l2 c15 c2
                    have w16 : IntKind.i64.wrap ((t : Int) - 16) = (t : Int) - 16 := IntWalk.i64_in _ (by omega)
                    have w7 : IntKind.i64.wrap ((t : Int) - 7) = (t : Int) - 7 := IntWalk.i64_in _ (by omega)
                    have n16 : (16 : Int) ≤ t := by omega
                    have n7 : (7 : Int) ≤ t := by omega
                    have n16' : (0 : Int) ≤ (t : Int) - 16 := by omega
                    have n7' : (0 : Int) ≤ (t : Int) - 7 := by omega
                    have m16 : ((t : Int) - 16).toNat = t - 16 := by omega
                    have m7 : ((t : Int) - 7).toNat = t - 7 := by omega
                    have l16 : (t : Int) - 16 < 64 := by omega
                    have l7 : (t : Int) - 7 < 64 := by omega
                    have lt0 : (0 : Int) ≤ (t : Int) := by omega
                    go_wp2_with fail
                    have c16 := H16.out
                    have c7 := H7.out
                    have ct := HC.out
                    have hft := (HWt.out t (by omega)).2
                    rw [Nat.zero_add] at hft
                    have ct1 : ∀ n o, ((wr.drewN n).alloc o).cell? ⟨wq.heap.size, t, none⟩ = some (valAt wr ⟨wq.heap.size, t, none⟩) := fun n o => (World.cell?_alloc_past _ _ _ hlt4).trans ct
                    have hft1 : ∀ n o, ((wr.drewN n).alloc o).frozen? ⟨wq.heap.size, t, none⟩ = false := fun n o => (World.frozen?_alloc_past _ _ _ hlt4).trans hft
                    have hne16 : ¬ t = t - 16 := by omega
                    have hne7 : ¬ t = t - 7 := by omega
                    have hne16' : ¬ t - 16 = t := by omega
                    have hne7' : ¬ t - 7 = t := by omega
                    go_region_held3 (fun w' => w'.cell? ⟨wq.heap.size, t - 16, none⟩ = some (Value.int .u32 x16.toNat) ∧ w'.cell? ⟨wq.heap.size, t - 7, none⟩ = some (Value.int .u32 x7.toNat)) (first | (go_keep; done) | exact ⟨(World.cell?_alloc_past _ _ _ (by simp [World.setCell]; omega)).trans ((World.cell?_setCell_other _ _ _ _ (by simp only [ne_eq, Addr.mk.injEq, not_and]; omega)).trans ((World.cell?_alloc_past _ _ _ hlt4).trans c16)), (World.cell?_alloc_past _ _ _ (by simp [World.setCell]; omega)).trans ((World.cell?_setCell_other _ _ _ _ (by simp only [ne_eq, Addr.mk.injEq, not_and]; omega)).trans ((World.cell?_alloc_past _ _ _ hlt4).trans c7))⟩) (first | (go_at_call_of 102 (Value.int .u32 x15.toNat); refine (mix_s0 x15 _ _ ?_ ?_).mono ?_; (first | exact new0 (by simp) rfl | exact new1 (by simp) rfl); (first | exact new0 (by simp) rfl | exact new1 (by simp) rfl); rintro e w1 ⟨rfl, rfl⟩) | (go_at_call_of 102 (Value.int .u32 x2.toNat); refine (mix_s1 x2 _ _ ?_ ?_).mono ?_; (first | exact new0 (by simp) rfl | exact new1 (by simp) rfl); (first | exact new0 (by simp) rfl | exact new1 (by simp) rfl); rintro e w1 ⟨rfl, rfl⟩))
                    all_goals
                      have hV := Sha.next_val x16 x15 x7 x2
                      have hm := Sha.made_succ (Sha.blk (Sha.pad s.data.toList) j) t hlt
                      rw [if_neg h16] at hm
                      unfold Sha.nextW at hm
                      rw [HX15.out, HX2.out, HX16.out, HX7.out] at hm
                      have HV := Lib.hid hV
                      have HM := Lib.hid hm
                      clear hV hm w16 w7 n16 n7 n16' n7' m16 m7 l16 l7 lt0 c16 c7 ct ct1 hft hft1 hne16 hne7 hne16' hne7' H16 H7 HC HX15 HX2 HX16 HX7
                      go_wp2_with fail
                      go_roundg (gk4 - 1)
                      case measure => omega
                      case rel =>
                        obtain ⟨q1, q2, q3, q4⟩ := next_word (A := _) (B := _) (n := _) HV.out hb4 hlt4 HW.out HWt.out
                        rw [HM.out] at q2
                        exact ⟨t + 1, by omega, by go_num, q1, q2, q3, q4⟩
                    -- ]DEV
                · obtain rfl : gk4 = 0 := by omega
                  obtain rfl : t = 64 := by omega
                  clear hlt ht64
                  have hm : Sha.made (Sha.blk (Sha.pad s.data.toList) j) 64 = Sha.sched64 (Sha.blk (Sha.pad s.data.toList) j) := by simp [Sha.made]
                  rw [hm] at hW
                  clear hm
                  generalize hws : Sha.sched64 (Sha.blk (Sha.pad s.data.toList) j) = ws at hW
                  have hwl : ws.length = 64 := by rw [← hws, Sha.sched64_length]
                  have HWS := Lib.hid hws
                  have HWL := Lib.hid hwl
                  clear hws hwl
                  have hst4 := hst.next hb4 hst.h2
                  have hwords := Lib.hid hst4.words
                  have hcons : Hid (wr.rangeAt 1 0 (Sha.wv ks)) := by rw [HKS.out]; exact rangeAt_below HT.out.consts hst4.below HT.out.ltConsts
                  clear hst4
                  generalize hhv : Sha.blocks (Sha.pad s.data.toList) j = hv at hwords
                  have HHV := Lib.hid hhv
                  clear hhv
                  obtain ⟨w4, hw4⟩ : ∃ w4 : World, w4 = wr := ⟨_, rfl⟩
                  subst hw4
                  have hcons2 : ((w4.alloc (.cells #[.int .u32 0, .int .u32 0, .int .u32 0, .int .u32 0, .int .u32 0, .int .u32 0, .int .u32 0, .int .u32 0] 108)).setCells w4.heap.size 0 (Sha.wv hv.toList)).rangeAt 1 0 (Sha.wv ks) := by
                    have hg := grownBy_setCells (w4.alloc (.cells #[.int .u32 0, .int .u32 0, .int .u32 0, .int .u32 0, .int .u32 0, .int .u32 0, .int .u32 0, .int .u32 0] 108)) w4.heap.size 0 (Sha.wv hv.toList)
                    exact rangeAt_grown (rangeAt_alloc hcons.out (by have := hst.h2; have := hst.g2; have := hst.g1; omega) _) hg (by simp; omega) (by simp; have := hst.h2; have := hst.g2; have := hst.g1; omega)
                  have HC2 := Lib.hid hcons2
                  clear hcons2
                  go_wp2_with (first | (with_reducible refine wpList_load_mid rfl 108 (.tmp 5) rfl wo.heap.size 0 rfl _ _ hwords.out Tryd.underlying108 rfl (by kernel_rfl) ?_) | (with_reducible refine wpList_load_mid rfl 133 _ rfl 1 0 rfl _ _ HC2.out Tryd.underlying133 rfl (by rw [Sha.wv_length, HKS.out, Sha.Ks_length]; kernel_rfl) ?_) | (with_reducible refine wpList_store_mid rfl 108 _ _ rfl w4.heap.size 0 (Sha.wv hv.toList).toArray rfl rfl (there_new _ _ _ _ (by simp [Sha.wv, Sha.V.toList])) (by kernel_rfl) (all_oneCell_toArray (Sha.wv_one _)) ?_))
                  obtain ⟨e1, e2, e3, e4⟩ := eight_new (Below.refl w4.heap.size w4) (Nat.le_refl _) hv
                  have E1 := Lib.hid e1
                  have E2 := Lib.hid e2
                  have E3 := Lib.hid e3
                  have E4 := Lib.hid e4
                  clear e1 e2 e3 e4 HC2
                  have HW := Lib.hid hW
                  clear hW hWt
                  go_loopg [115] 64 (fun g6 v wr => ∃ r, r + g6 = 64 ∧ v = .int .i64 (r : Nat) ∧ Below w4.heap.size w4 wr ∧ wr.rangeAt w4.heap.size 0 (Sha.wv (Sha.rounds ws hv r).toList) ∧ wr.there w4.heap.size 0 8 ∧ w4.heap.size < wr.heap.size)
                  case atStart => exact ⟨0, by omega, rfl, E1.out, E2.out, E3.out, E4.out⟩
                  case round =>
                    clear E1 E2 E3 E4
                    obtain ⟨r, hr64, rfl, hb6, hV, hVt, hlt6⟩ := hrel
                    obtain ⟨gk6, hgk6⟩ : ∃ n : Nat, n = gk := ⟨_, rfl⟩
                    subst hgk6
                    by_cases hlt : r < 64
                    · obtain ⟨i0, hi, hz0, hz1, hz2⟩ := info_parts infoU32
                      have hix : Hid ((Sha.wv ks).toArray[r]? = some (.int .u32 (Sha.K r).toNat)) := by rw [HKS.out]; exact Sha.Ks_at r hlt
                      have HI := Lib.hid hi
                      have HZ1 := Lib.hid hz1
                      clear hi hz0 hz1 hz2
                      generalize hvr : Sha.rounds ws hv r = vr at hV
                      obtain ⟨xa, xb, xc, xd, xe, xf, xg, xh⟩ := vr
                      have HVR := Lib.hid hvr
                      clear hvr
                      have hwr := (rangeAt_below HW.out hb6 hlt4) r _ (Sha.wv_get _ r (ws.getD r 0) (by rw [List.getElem?_eq_getElem (by rw [HWL.out]; exact hlt)]; simp [List.getD, HWL.out, hlt]))
                      rw [Nat.zero_add] at hwr
                      generalize hwx : ws.getD r 0 = xw at hwr
                      have HWX := Lib.hid hwx
                      clear hwx
                      obtain ⟨v0, v1, v2, v3, v4, v5, v6, v7⟩ := eight_at hV
                      generalize hK : Sha.K r = xk at hix
                      have HK := Lib.hid hK
                      clear hK
                      have HVV := Lib.hid hV
                      have HVT := Lib.hid hVt
                      clear hV hVt
                      go_wp2_with (with_reducible refine wpList_index_agg rfl 133 (.tmp 114) (.tmp 115) rfl 107 64 i0 .u32 Tryd.underlying133 Tryd.underlying107 HI.out HZ1.out _ rfl r rfl _ hlt hix.out ?_)
                      clear hix HI HZ1
                      go_quiet (fail)
                      have rr0 : (0 : Int) ≤ (r : Int) := by omega
                      go_wp2_with fail
                      go_region_held3 (fun w' => w'.cell? ⟨w4.heap.size, 7, none⟩ = some (Value.int .u32 xh.toNat) ∧ w'.cell? ⟨w4.heap.size, 6, none⟩ = some (Value.int .u32 xg.toNat) ∧ w'.cell? ⟨w4.heap.size, 5, none⟩ = some (Value.int .u32 xf.toNat) ∧ w'.cell? ⟨wq.heap.size, r, none⟩ = some (Value.int .u32 xw.toNat)) (go_keep) (first | (go_at_call 102; refine (mix_S1 xe _ _ ?_ ?_ ?_).mono ?_; (exact new0 (by simp) rfl); (exact new0 (by simp) rfl); (exact new0 (by simp) rfl); rintro e w1 ⟨rfl, rfl⟩))
                      go_wp2_with fail
                      rw [Sha.p_val]
                      generalize hp : Sha.pW xh xe xf xg xk xw = xp
                      have HPW := Lib.hid hp
                      clear hp
                      go_region_held3 (fun w' => w'.cell? ⟨w4.heap.size, 1, none⟩ = some (Value.int .u32 xb.toNat) ∧ w'.cell? ⟨w4.heap.size, 2, none⟩ = some (Value.int .u32 xc.toNat)) (go_keep) (first | (go_at_call 102; refine (mix_S0 xa _ _ ?_ ?_ ?_).mono ?_; (exact new0 (by simp) rfl); (exact new0 (by simp) rfl); (exact new0 (by simp) rfl); rintro e w1 ⟨rfl, rfl⟩))
                      go_wp2_with fail
                      rw [Sha.q_val]
                      generalize hq : Sha.qW xa xb xc = xq
                      have HQW := Lib.hid hq
                      clear hq v0 v1 v2 v3 v4 v5 v6 v7 hwr
                      obtain ⟨t1, t2, t3, t4⟩ := two_new (n := nq + 1) (O1 := .cells #[.int .i64 6, .int .i64 11, .int .i64 25] 3) (O2 := .cells #[.int .i64 2, .int .i64 13, .int .i64 22] 3) hb6 (by omega) hlt6 HVV.out HVT.out
                      generalize hX : ((wr.drewN (nq + 1)).alloc (.cells #[.int .i64 6, .int .i64 11, .int .i64 25] 3)).alloc (.cells #[.int .i64 2, .int .i64 13, .int .i64 22] 3) = wx at *
                      clear hX
                      obtain ⟨k0, -⟩ := copy_shift t1.drew (Nat.le_refl _) (rangeAt_drew t2) (there_drew t3) t4
                      obtain ⟨k1, k2, k3, k4, k5⟩ := copy_shift t1.drew.drew (Nat.le_refl _) (rangeAt_drew (rangeAt_drew t2)) (there_drew (there_drew t3)) t4
                      have K2 := Lib.hid k2
                      have K3 := Lib.hid k3
                      have K4 := Lib.hid k4
                      have K5 := Lib.hid k5
                      clear t1 t2 t3 t4 k2 k3 k4 k5
                      go_region
                      clear k0 k1 HVV HVT
                      generalize wx.drew.drew.setCells w4.heap.size 1 (Sha.wv [xa, xb, xc, xd, xe, xf, xg]) = wy at *
                      obtain ⟨v0, -, -, -, v4, -, -, -⟩ := eight_at K3.out
                      have f4 := (K4.out 4 (by omega)).2
                      have f0 := (K4.out 0 (by omega)).2
                      go_wp2_with fail
                      rw [Sha.add_W', Sha.add_W']
                      clear v0 v4 f4 f0
                      have hend := Lib.hid (round_end (xp := xp) (xq := xq) K2.out (Nat.le_refl _) K3.out K4.out K5.out)
                      have hstep : Hid (Sha.rounds ws hv (r + 1) = ⟨xp + xq, xa, xb, xc, xd + xp, xe, xf, xg⟩) := by
                        show Sha.step (Sha.rounds ws hv r) (Sha.K r) (ws.getD r 0) = _
                        rw [HVR.out, HK.out, HWX.out, Sha.step_eq, HPW.out, HQW.out]
                      go_roundg (gk6 - 1)
                      case measure => omega
                      case rel =>
                        obtain ⟨q1, q2, q3, q4⟩ := hend.out
                        exact ⟨r + 1, by omega, by go_num, q1, by rw [hstep.out]; exact q2, q3, q4⟩
                    · obtain rfl : gk6 = 0 := by omega
                      obtain rfl : r = 64 := by omega
                      clear hlt hr64
                      rw [← Sha.rounds64_eq] at hV
                      generalize hvr : Sha.rounds64 ws hv = vr at hV
                      have HVR := Lib.hid hvr
                      clear hvr
                      have HVV := Lib.hid hV
                      have hwq := hb4.trans (hb6.mono (by omega))
                      have hst6 := hst.next hwq hst.h2
                      have HST := Lib.hid hst6
                      have HG := Lib.hid (And.intro hst.g1 (And.intro hst.g2 hst.h2))
                      rw [HHV.out] at hst6
                      have HA1 := Lib.hid hst6.words
                      have HA2 := Lib.hid hst6.wordsW
                      clear hV hVt hst6
                      go_wp2_with (with_reducible refine wpList_load_mid rfl 108 (.tmp 12) rfl w4.heap.size 0 rfl _ _ HVV.out Tryd.underlying108 rfl (by kernel_rfl) ?_)
                      obtain ⟨w7, hw7⟩ : ∃ w7 : World, w7 = wr := ⟨_, rfl⟩
                      subst hw7
                      try go_frame
                      go_loopg [176] 8 (fun g7 v wr => ∃ i, i + g7 = 8 ∧ v = .int .i64 (i : Nat) ∧ Below wo.heap.size w7 wr ∧ wr.rangeAt wo.heap.size 0 (Sha.wv (Sha.addL hv vr i)) ∧ wr.there wo.heap.size 0 8)
                      case atStart => exact ⟨0, by omega, rfl, Below.refl _ _, HA1.out, HA2.out⟩
                      case round =>
                        obtain ⟨i, hi8, rfl, hb7, hH, hHt⟩ := hrel
                        obtain ⟨gk7, hgk7⟩ : ∃ n : Nat, n = gk := ⟨_, rfl⟩
                        subst hgk7
                        by_cases hlt : i < 8
                        · obtain ⟨i0, hi, hz0, hz1, hz2⟩ := info_parts infoU32
                          have hix := Lib.hid (Sha.V_get vr i hlt)
                          have HI := Lib.hid hi
                          have HZ1 := Lib.hid hz1
                          clear hi hz0 hz1 hz2
                          have hcell := hH i _ (Sha.wv_get _ _ _ (Sha.addL_at hv vr i hlt))
                          have hfr := (hHt i (by omega)).2
                          rw [Nat.zero_add] at hcell hfr
                          have HSET := Lib.hid (Sha.addL_set hv vr i hlt)
                          generalize hxh : hv.toList.getD i 0 = xh at hcell HSET
                          generalize hxv : vr.toList.getD i 0 = xv at hix HSET
                          clear hxh hxv
                          have HH := Lib.hid hH
                          have HHT := Lib.hid hHt
                          clear hH hHt
                          go_wp2_with (with_reducible refine wpList_index_agg rfl 108 (.tmp 175) (.tmp 176) rfl 107 8 i0 .u32 Tryd.underlying108 Tryd.underlying107 HI.out HZ1.out _ rfl i rfl _ hlt hix.out ?_)
                          rw [Sha.add_W']
                          clear hix HI HZ1 hcell hfr
                          have hs := rangeAt_set HH.out i (.int .u32 (xh + xv).toNat)
                          rw [Sha.wv_set, HSET.out, Nat.zero_add] at hs
                          have hs2 := hb7.setCell (p := ⟨wo.heap.size, i, none⟩) (Nat.le_refl _) (.int .u32 (xh + xv).toNat)
                          have hs3 := there_setCell HHT.out ⟨wo.heap.size, i, none⟩ (.int .u32 (xh + xv).toNat)
                          have HS1 := Lib.hid hs
                          have HS2 := Lib.hid hs2
                          have HS3 := Lib.hid hs3
                          clear hs hs2 hs3 HSET
                          go_roundg (gk7 - 1)
                          case measure => omega
                          case rel => exact ⟨i + 1, by omega, by go_num, HS2.out, HS1.out, HS3.out⟩
                        · obtain rfl : gk7 = 0 := by omega
                          obtain rfl : i = 8 := by omega
                          clear hlt hi8
                          rw [Sha.addL_all] at hH
                          have hblk : Sha.blocks (Sha.pad s.data.toList) (j + 1) = vr.add hv := by
                            show Sha.block (Sha.blocks (Sha.pad s.data.toList) j) (Sha.blk (Sha.pad s.data.toList) j) = _
                            unfold Sha.block
                            rw [HWS.out, HHV.out, HVR.out]
                          have hst7 : St w wr g og (Sha.pad s.data.toList) wo.heap.size (Sha.blocks (Sha.pad s.data.toList) (j + 1)) := by
                            have h := HST.out
                            have g1 := h.g1; have g2 := h.g2; have g3 := h.h2
                            exact ⟨h.below.trans (hb7.mono (by omega)), there_below h.res hb7 (by omega), rangeAt_below h.text hb7 (by omega), by rw [hblk]; exact hH, hHt, g1, g2, Nat.lt_of_lt_of_le g3 hb7.size⟩
                          have HST7 := Lib.hid hst7
                          clear hst7 hblk hH hHt HST HA1 HA2 HVV HVR HW HWS HWL hwords hcons HHV
                          have qc : 64 ≤ c := by omega
                          have ql : (64 : Int) ≤ 64 * (gk : Int) := by omega
                          by_cases hc64 : c = 64
                          · have hc64' : (c = 64) = True := by simp [hc64]
                            go_wp2_with fail
                            go_roundg (gk - 1)
                            case measure => omega
                            case rel => exact ⟨j + 1, _, _, by omega, by congr 1; omega, fun h => by omega, by omega, by omega, HST7.out⟩
                          · go_wp2_with fail
                            go_roundg (gk - 1)
                            case measure => omega
                            case rel => exact ⟨j + 1, _, _, by omega, by congr 1; omega, fun _ => by congr 2 <;> omega, by omega, by omega, HST7.out⟩
            · obtain rfl : gk = 0 := by omega
              clear hgk hao
              have hfin : Sha.blocks (Sha.pad s.data.toList) j = Sha.sum s.data.toList := by
                unfold Sha.sum
                congr 1 <;> omega
              rw [hfin] at hst
              clear hfin
              generalize hsum : Sha.sum s.data.toList = vs at hst
              have HSUM := Lib.hid hsum
              clear hsum
              have HWD := Lib.hid hst.words
              have hres : wr.there w.heap.size 0 (Sha.wv vs.toList).length := by
                have h8 : (Sha.wv vs.toList).length = 8 := by simp [Sha.wv, Sha.V.toList]
                rw [h8]; exact hst.res
              have HRES := Lib.hid hres
              have HB := Lib.hid hst.below
              have HG1 : w.heap.size ≤ wr.heap.size := hst.below.size
              clear hres hst
              go_wp2_with (first | (with_reducible refine wpList_load_mid rfl 108 (.tmp 5) rfl wo.heap.size 0 rfl _ _ HWD.out Tryd.underlying108 rfl (by kernel_rfl) ?_) | (with_reducible refine wpList_store_any rfl 108 (.tmp 2) (.tmp 187) rfl w.heap.size 0 (Sha.wv vs.toList) rfl rfl HRES.out (by kernel_rfl) (Sha.wv_one _) ?_; intro w5 q1 q2 q3; have Q1 := Lib.hid q1; have Q3 := Lib.hid q3; clear q1 q2 q3))
              refine bodyPost_ret (results_cell_mid Tryd.results84 _ _ w.heap.size 0 (Sha.wv vs.toList) _ rfl Q1.out Tryd.underlying108 rfl (by kernel_rfl)) rfl ⟨by rw [HSUM.out], ?_⟩
              exact HB.out.grown Q3.out HG1 (fun k hk => by cases hk; exact Nat.le_refl _)
end Go.Proofs.YtpdbcahiipbhnaaDoor
