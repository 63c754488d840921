/- strconv.FormatUint(u, 16) at the numbers that the digest gives it: 1 and eight hexadecimal digits. -/
import Derived.Test.YtpdbcahiipbhnaaDoorA1
import Derived.Handy
import Derived.Deep.LoopGhost
import Derived.BigQuiet
import Derived.Deep.QuietTactic
namespace Go.Proofs.YtpdbcahiipbhnaaDoor
open Go.RowKit
set_option maxHeartbeats 400000 in
theorem pow2_16 (w : World) :
    Calls Tryd.prog 120 #[.int .i64 16] w fun e w' => e = .returned (.bool true) ∧ w = w' := by
  have e : bits .and .i64 16 15 = 0 := by decide +kernel
  go_enter Tryd.func120, Tryd.ntmps120
  go_wp2
  go_ret
  exact ⟨rfl, rfl⟩
set_option maxHeartbeats 400000 in
theorem tz64_16 (w : World) (h : w.cell? ⟨4, 15, none⟩ = some (.int .u8 4)) :
    Calls Tryd.prog 123 #[.int .u64 16] w fun e w' => e = .returned (.int .i64 4) ∧ w = w' := by
  have e : IntKind.u64.wrap (bits .and .u64 16 (IntKind.u64.wrap (-16)) * 285870213051353865) / 288230376151711744 = 15 := by decide +kernel
  go_enter Tryd.func123, Tryd.ntmps123
  go_wp2
  go_ret
  exact ⟨rfl, rfl⟩
set_option maxHeartbeats 400000 in
theorem tz_16 (w : World) (h : w.cell? ⟨4, 15, none⟩ = some (.int .u8 4)) :
    Calls Tryd.prog 121 #[.int .u64 16] w fun e w' => e = .returned (.int .i64 4) ∧ w = w' := by
  go_enter Tryd.func121, Tryd.ntmps121
  go_wp2_with (go_at_call 123; refine (tz64_16 _ h).mono ?_; rintro e w' ⟨rfl, rfl⟩)
  go_ret
  exact ⟨rfl, rfl⟩

/-- The last k digits of a number, the highest first. -/
def lastDigs (U : Nat) : Nat → List UInt8
  | 0 => []
  | k + 1 => Sha.dig (U / 16 ^ k % 16) :: lastDigs U k
theorem lastDigs_length (U k : Nat) : (lastDigs U k).length = k := by
  induction k with
  | zero => rfl
  | succ k ih => simp [lastDigs, ih]
def digTab : ByteArray := ⟨#[48, 49, 50, 51, 52, 53, 54, 55, 56, 57, 97, 98, 99, 100, 101, 102, 103, 104, 105, 106, 107, 108, 109, 110, 111, 112, 113, 114, 115, 116, 117, 118, 119, 120, 121, 122]⟩
theorem digTab_at (n : Nat) (h : n < 16) (hn : n < digTab.size) : (digTab[n]'hn).toNat = (Sha.dig n).toNat := by
  have hs : digTab.size = 36 := rfl
  have e : digTab[n]'hn = digTab.data.toList.getD n 0 := by
    have hn' : n < digTab.data.toList.length := by simpa using hn
    rw [List.getD, List.getElem?_eq_getElem hn']
    rfl
  rw [e]
  have all : ∀ m : Fin 16, (digTab.data.toList.getD m.val 0).toNat = (Sha.dig m.val).toNat := by clear e hs hn h; decide +kernel
  exact all ⟨n, h⟩
theorem and15 (u : Nat) (h : u < 18446744073709551616) : bits .and .u64 (u : Int) 15 = ((u % 16 : Nat) : Int) := by
  have := u64_and_nat u 15 h (by decide)
  rw [show ((15 : Nat) : Int) = 15 from rfl] at this
  rw [this, show (15 : Nat) = 2 ^ 4 - 1 from rfl, Nat.and_two_pow_sub_one_eq_mod]

/-- A digit ahead of those that are there. -/
theorem digs_cons {w : World} {b i n : Nat} {ds : List UInt8} (hr : w.rangeAt b i (bv ds)) (ht : w.there b 0 n) (hi : 0 < i ∧ i ≤ n) (c : UInt8) : (w.setCell ⟨b, i - 1, none⟩ (.int .u8 c.toNat)).rangeAt b (i - 1) (bv (c :: ds)) := by
  intro j u hj
  cases j with
  | zero =>
    have h0 : u = .int .u8 c.toNat := by simpa [bv] using hj.symm
    subst h0
    have hc := there_cell ht (i - 1) (by omega)
    rw [Nat.zero_add] at hc
    exact World.cell?_setCell_same _ _ _ hc
  | succ j =>
    have h := hr j u (by simpa [bv] using hj)
    rw [World.cell?_setCell_other _ _ _ _ (by simp only [ne_eq, Addr.mk.injEq, not_and]; omega), show i - 1 + (j + 1) = i + j by omega]
    exact h

set_option maxHeartbeats 1000000 in
set_option maxRecDepth 100000 in
theorem bits16 (U : Nat) (w : World) (h1 : 4294967296 ≤ U) (h2 : U < 8589934592) (ht : w.cell? ⟨4, 15, none⟩ = some (.int .u8 4)) (hw : 4 < w.heap.size) :
    Calls Tryd.prog 113 #[.slice none 0 0, .int .u64 (U : Int), .int .i64 16, .bool false, .bool false] w fun e w' => e = .returned (.tuple #[.slice none 0 0, .string ⟨(lastDigs U 9).toArray⟩]) ∧ Below w.heap.size w w' := by
  have hz : (w.alloc (.cells Tryd.zeroCells151 151)).there w.heap.size 0 65 := there_new _ _ _ _ (by rw [show (Tryd.zeroCells151).size = 65 by kernel_rfl]; exact Nat.le_refl _)
  have hb := (Below.refl w.heap.size w).alloc (Nat.le_refl _) (.cells Tryd.zeroCells151 151)
  have hsz : w.heap.size < (w.alloc (.cells Tryd.zeroCells151 151)).heap.size := by simp
  have ht2 : (w.alloc (.cells Tryd.zeroCells151 151)).cell? ⟨4, 15, none⟩ = some (.int .u8 4) := (World.cell?_alloc_past _ _ _ hw).trans ht
  go_enter Tryd.func113, Tryd.ntmps113
  have HT2 := Lib.hid ht2
  have HZ := Lib.hid hz
  have HB := Lib.hid hb
  have HSZ := Lib.hid hsz
  clear ht2 hz hb hsz ht
  go_wp2_with (first | (go_at_call 120; refine (pow2_16 _).mono ?_; rintro e w' ⟨rfl, rfl⟩) | (go_at_call 121; refine (tz_16 _ HT2.out).mono ?_; rintro e w' ⟨rfl, rfl⟩))
  go_loopg [13, 1] 8 (fun gk i u wr => ∃ k : Nat, k + gk = 8 ∧ i = .int .i64 (65 - (k : Int)) ∧ u = .int .u64 ((U / 16 ^ k : Nat) : Int) ∧ Below w.heap.size w wr ∧ wr.rangeAt w.heap.size (65 - k) (bv (lastDigs U k)) ∧ wr.there w.heap.size 0 65 ∧ w.heap.size < wr.heap.size)
  case atStart => exact ⟨0, by omega, by simp, by simp, HB.out, fun j u h => by simp [bv, lastDigs] at h, HZ.out, HSZ.out⟩
  case round =>
    clear HT2 HZ HB HSZ
    obtain ⟨k, hk, rfl, rfl, hb, hr, hth, hsz⟩ := hrel
    by_cases hlt : k < 8
    · have hge : 16 ≤ U / 16 ^ k := by
        have : 16 ^ k ≤ 16 ^ 7 := Nat.pow_le_pow_right (by omega) (by omega)
        have h16 : 16 * 16 ^ k ≤ U := by omega
        exact (Nat.le_div_iff_mul_le (Nat.pow_pos (by omega))).2 h16
      have hlt2 : U / 16 ^ k < 8589934592 := Nat.lt_of_le_of_lt (Nat.div_le_self _ _) h2
      generalize hq : U / 16 ^ k = q at *
      have HQ := Lib.hid hq
      clear hq
      have ha := and15 q (by omega)
      have hm : q % 16 < 16 := Nat.mod_lt _ (by omega)
      have HD := Lib.hid (digTab_at (q % 16) hm (by show _ < 36; omega))
      have hm1 : 0 ≤ (q : Int) % 16 := by omega
      have hm2 : (q : Int) % 16 < 36 := by omega
      have hc := there_cell hth (65 - k - 1) (by omega)
      have hf := (hth (65 - k - 1) (by omega)).2
      rw [Nat.zero_add] at hc hf
      go_wp2_with fail
      have hb2 := hb.setCell (p := ⟨w.heap.size, 65 - k - 1, none⟩) (Nat.le_refl _) (.int .u8 (Sha.dig (q % 16)).toNat)
      have ht2 := there_setCell hth ⟨w.heap.size, 65 - k - 1, none⟩ (.int .u8 (Sha.dig (q % 16)).toNat)
      have hr2 := digs_cons hr hth (by omega) (Sha.dig (q % 16))
      have HB := Lib.hid hb2
      have HT := Lib.hid ht2
      have HR := Lib.hid hr2
      clear hb2 ht2 hr2 hb hth hr hc hf
      go_roundg (gk - 1)
      case measure => omega
      case rel =>
        have hcell : (Value.int IntKind.u8 ((digTab[q % 16]'(by show _ < 36; omega)).toNat : Int)) = .int .u8 (Sha.dig (q % 16)).toNat := by rw [HD.out]
        refine ⟨k + 1, by omega, by congr 1; omega, ?_, ?_, ?_, ?_, by simp [World.setCell]; omega⟩
        · rw [Nat.pow_succ, ← Nat.div_div_eq_div_mul, HQ.out]; simp
        · exact hcell ▸ HB.out
        · have h := hcell ▸ HR.out
          rw [show 65 - (k + 1) = 65 - k - 1 by omega, lastDigs, HQ.out]
          exact h
        · exact hcell ▸ HT.out
    · obtain rfl : gk = 0 := by omega
      obtain rfl : k = 8 := by omega
      have hq : U / 16 ^ 8 = 1 := by omega
      have hr2 := digs_cons hr hth (by omega) (Sha.dig 1)
      have hlast : bv (Sha.dig 1 :: lastDigs U 8) = bv (lastDigs U 9) := by rw [show lastDigs U 9 = Sha.dig (U / 16 ^ 8 % 16) :: lastDigs U 8 from rfl, hq]
      rw [hlast] at hr2
      clear hlast
      have hl := lastDigs_length U 9
      rw [hq]
      have hr3 : (wr.setCell ⟨w.heap.size, 56, none⟩ (.int .u8 (((⟨#[48, 49, 50, 51, 52, 53, 54, 55, 56, 57, 97, 98, 99, 100, 101, 102, 103, 104, 105, 106, 107, 108, 109, 110, 111, 112, 113, 114, 115, 116, 117, 118, 119, 120, 121, 122]⟩ : ByteArray)[1]'(by decide)).toNat : Int))).rangeAt w.heap.size 56 (bv (lastDigs U 9)) := hr2
      have HR := Lib.hid hr3
      have HB := Lib.hid hb
      have HLN := Lib.hid hl
      have hc := there_cell hth 56 (by omega)
      have hf := (hth 56 (by omega)).2
      rw [Nat.zero_add] at hc hf
      clear hr2 hr3 hb hr hq hl hlt hk
      generalize hds : lastDigs U 9 = ds at HR HLN
      have HDS := Lib.hid hds
      clear hds
      go_wp2_with (with_reducible refine wpList_string rfl 106 9 _ rfl 5 w.heap.size 56 9 _ rfl ds HR.out HLN.out Tryd.underlying106 Tryd.underlying5 Tryd.underlying9 ?_)
      go_ret2
      exact ⟨by rw [HDS.out]; rfl, HB.out.setCell (p := ⟨w.heap.size, 56, none⟩) (Nat.le_refl _) _⟩

/-- What the digest asks for: a ninth digit, 1, and the eight of a word. -/
theorem lastDigs_word (x : Sha.W) : lastDigs (4294967296 + x.toNat) 9 = 49 :: Sha.hexW x := by
  have hx := Sha.toNat_lt x
  have e : ∀ k, k < 8 → (4294967296 + x.toNat) / 16 ^ k % 16 = x.toNat / 16 ^ k % 16 := by
    intro k hk
    have h8 : (4294967296 : Nat) = 16 ^ k * (16 * 16 ^ (7 - k)) := by
      rw [← Nat.pow_succ', ← Nat.pow_add, show k + (7 - k + 1) = 8 by omega]
    rw [h8, Nat.add_comm, Nat.add_mul_div_left _ _ (Nat.pow_pos (by omega)), Nat.add_mul_mod_self_left]
  have e8 : (4294967296 + x.toNat) / 16 ^ 8 % 16 = 1 := by omega
  simp only [lastDigs, e8, e 7 (by omega), e 6 (by omega), e 5 (by omega), e 4 (by omega), e 3 (by omega), e 2 (by omega), e 1 (by omega), e 0 (by omega)]
  rfl
theorem or_word (x : Sha.W) : bits .or .u64 4294967296 (x.toNat : Int) = ((4294967296 + x.toNat : Nat) : Int) := by
  have hx := Sha.toNat_lt x
  have := u64_or_nat 4294967296 x.toNat (by decide) (by omega)
  rw [show ((4294967296 : Nat) : Int) = 4294967296 from rfl] at this
  rw [this]
  congr 1
  have h := Nat.two_pow_add_eq_or_of_lt (i := 32) hx 1
  simpa using h.symm

set_option maxHeartbeats 1000000 in
theorem fmt16_in (U : Nat) (w : World) (h1 : 4294967296 ≤ U) (h2 : U < 8589934592) (ht : w.cell? ⟨4, 15, none⟩ = some (.int .u8 4)) (hw : 4 < w.heap.size) :
    Calls Tryd.prog 103 #[.int .u64 (U : Int), .int .i64 16] w fun e w' => e = .returned (.string ⟨(lastDigs U 9).toArray⟩) ∧ Below w.heap.size w w' := by
  go_enter Tryd.func103, Tryd.ntmps103
  go_wp2_with (go_at_call 113; refine (bits16 U _ h1 h2 ht hw).mono ?_; rintro e w' ⟨rfl, hb⟩)
  go_ret
  exact ⟨rfl, hb⟩
theorem fmt16 (x : Sha.W) (w : World) (ht : w.cell? ⟨4, 15, none⟩ = some (.int .u8 4)) (hw : 4 < w.heap.size) :
    Calls Tryd.prog 85 #[.int .u64 (bits .or .u64 4294967296 (x.toNat : Int)), .int .i64 16] w fun e w' => e = .returned (.string ⟨(49 :: Sha.hexW x).toArray⟩) ∧ Below w.heap.size w w' := by
  have hx := Sha.toNat_lt x
  rw [or_word, ← lastDigs_word]
  generalize hU : 4294967296 + x.toNat = U
  have h1 : 4294967296 ≤ U := by omega
  have h2 : U < 8589934592 := by omega
  clear hU
  go_enter Tryd.func85, Tryd.ntmps85
  go_wp2_with (go_at_call 103; refine (fmt16_in U _ h1 h2 ht hw).mono ?_; rintro e w' ⟨rfl, hb⟩)
  go_ret
  exact ⟨rfl, hb⟩
end Go.Proofs.YtpdbcahiipbhnaaDoor
