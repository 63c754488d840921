/- The reference implementation of layer 28: words, Sum, Number. -/
import Derived.Test.YtpdbcahiipbhnaaDoorR1
namespace Go.Proofs.YtpdbcahiipbhnaaDoor
open Go.RowKit

theorem blk_range {w : World} {g og : Nat} {p : List UInt8} (h : w.rangeAt g og (bv p)) (j : Nat) : w.rangeAt g (og + 64 * j) (bv (Sha.blk p j)) := by
  have := rangeAt_take h (64 * j) 64
  simpa [bv, Sha.blk, List.map_drop, List.map_take] using this
theorem blk_length (p : List UInt8) (j : Nat) (h : 64 * j + 64 ≤ p.length) : (Sha.blk p j).length = 64 := by
  simp [Sha.blk]; omega

set_option maxHeartbeats 2000000 in
set_option maxRecDepth 100000 in
theorem words_any (s : ByteArray) (w : World) (hs : s.size ≤ 1000000) :
    Calls Tryd.prog 88 #[.string s] w fun e w' => ∃ n, e = .returned (.slice (some ⟨n, 0, none⟩) 8 8) ∧ w'.rangeAt n 0 (Sha.wv (Sha.sum s.data.toList).toList) ∧ w.heap.size ≤ n ∧ n < w'.heap.size ∧ Below w.heap.size w w' := by
  go_enter Tryd.func88, Tryd.ntmps88
  go_wp2_with fail
  refine (padded_any s _ hs).mono ?_
  rintro e w2 ⟨v, rfl, hown, hb2⟩
  have hL := Sha.pad_length s.data.toList
  have hM := Sha.pad_mod s.data.toList
  obtain ⟨g, og, cap, hv, hg1, hg2, hc1, hc2, htext, _⟩ := hown.place (by omega)
  subst hv
  have hlen : (Sha.pad s.data.toList).length ≤ 2000000 := by
    have h1 : s.data.toList.length = s.size := by simp
    have h2 := zeros_lt s.data.toList.length
    omega
  have hinit := rangeAt_below (rangeAt_new w (Sha.wv Sha.init.toList).toArray 107) (hb2.mono (Nat.le_refl _)) (by simp)
  have hbw := ((Below.refl w.heap.size w).alloc (Nat.le_refl _) (.cells (Sha.wv Sha.init.toList).toArray 107)).trans (hb2.mono (by simp))
  have hs2 := hb2.size
  simp only [World.size_alloc] at hs2 hg1
  have HI := Lib.hid hinit
  have HB := Lib.hid hbw
  have HT := Lib.hid htext
  clear hinit hbw htext hown hb2 hL
  go_wp2_with fail
  refine (constants_any _).mono ?_
  rintro e w3 ⟨rfl, hw3⟩
  have hk3 : w3.rangeAt w2.heap.size 0 (Sha.wv Sha.Ks) := by rw [hw3]; exact rangeAt_new w2 _ _
  have hb3 : Below w2.heap.size w2 w3 := by rw [hw3]; exact (Below.refl _ _).alloc (Nat.le_refl _) _
  have hs3 : w3.heap.size = w2.heap.size + 1 := by rw [hw3]; simp
  have HK3 := Lib.hid hk3
  have HB3 := Lib.hid hb3
  clear hk3 hb3 hw3
  have HT3 := Lib.hid (rangeAt_below HT.out HB3.out hg2)
  have HI3 := Lib.hid (rangeAt_below HI.out HB3.out (by omega))
  generalize hP : Sha.pad s.data.toList = P at *
  have HP := Lib.hid hP
  clear hP
  go_wp2_with fail
  go_loopg [3, 6] (P.length / 64) (fun gk h i wr => ∃ j H : Nat, j + gk = P.length / 64 ∧ i = .int .i64 ((64 * j : Nat) : Int) ∧ h = .slice (some ⟨H, 0, none⟩) 8 8 ∧ Below w3.heap.size w3 wr ∧ wr.rangeAt H 0 (Sha.wv (Sha.blocks P j).toList) ∧ w.heap.size ≤ H ∧ H < wr.heap.size)
  case atStart => exact ⟨0, w.heap.size, by omega, rfl, rfl, Below.refl _ _, HI3.out, Nat.le_refl _, by omega⟩
  case round =>
    obtain ⟨j, H, hj, rfl, rfl, hb, hH, hH1, hH2⟩ := hrel
    have hs := hb.size
    by_cases hlt : 64 * j < P.length
    · have q1 : 64 * j + 64 ≤ P.length := by omega
      have q2 : ((64 * j : Nat) : Int) < (P.length : Int) := by omega
      have hG := blk_range (rangeAt_below HT3.out hb (by omega)) j
      have hK := rangeAt_below HK3.out hb (by omega)
      have hlb := blk_length P j q1
      have hbl : Sha.blocks P (j + 1) = Sha.block (Sha.blocks P j) (Sha.blk P j) := rfl
      have HBL := Lib.hid hbl
      generalize Sha.blocks P j = hv at hH HBL
      generalize Sha.blk P j = bb at hG hlb HBL
      have HH := Lib.hid hH
      have HG := Lib.hid hG
      have HK := Lib.hid hK
      clear hH hG hK hbl
      have q3 : 64 * j + 64 ≤ cap := by omega
      have q4 : ¬ cap = 64 * j := by omega
      go_wp2_with fail
      refine (block_any hv bb hlb wr H 0 8 g (og + 64 * j) (cap - 64 * j) w2.heap.size HH.out HG.out HK.out hH2 (by omega) (by omega)).mono ?_
      rintro e w5 ⟨n, rfl, hn1, hn2, hn3, hn4⟩
      have HN1 := Lib.hid hn1
      clear hn1
      go_wp2_with fail
      go_roundg (gk - 1)
      case measure => omega
      case rel => exact ⟨j + 1, n, by omega, by congr 1, rfl, hb.trans (hn4.mono hs), by rw [HBL.out]; exact HN1.out, by omega, hn3⟩
    · obtain rfl : gk = 0 := by omega
      have hjj : j = P.length / 64 := by omega
      have q2 : ¬ ((64 * j : Nat) : Int) < (P.length : Int) := by omega
      have hfin : Sha.blocks P j = Sha.sum s.data.toList := by unfold Sha.sum; rw [HP.out, hjj]
      rw [hfin] at hH
      clear hfin
      go_wp2_with fail
      go_ret
      exact ⟨H, rfl, hH, hH1, hH2, HB.out.trans ((HB3.out.mono (by omega)).trans (hb.mono (by omega)))⟩
end Go.Proofs.YtpdbcahiipbhnaaDoor
