/- digest.Sum and digest.Number, out of the contract of digest.sum. -/
import Derived.Test.YtpdbcahiipbhnaaDoorS0
import Derived.Test.YtpdbcahiipbhnaaDoorFmt
namespace Go.Proofs.YtpdbcahiipbhnaaDoor
open Go.RowKit

theorem results_agg8 (v : Sha.V) (i : Nat) (h : i < 8) : (Sha.wv v.toList).toArray[i]? = some (.int .u32 (v.toList.getD i 0).toNat) := Sha.V_get v i h

/-- The digits of the first k words. -/
def hexTo (v : Sha.V) (k : Nat) : List UInt8 := ((v.toList.take k).map Sha.hexW).flatten
theorem hexTo_length (v : Sha.V) (k : Nat) (h : k ≤ 8) : (hexTo v k).length = 8 * k := by
  unfold hexTo
  have : ∀ l : List Sha.W, ((l.map Sha.hexW).flatten).length = 8 * l.length := fun l => by
    induction l with
    | nil => rfl
    | cons a l ih => simp [Sha.hexW_length, ih]; omega
  rw [this, List.length_take]
  simp [Sha.V.toList]; omega
theorem hexTo_succ (v : Sha.V) (k : Nat) (h : k < 8) : hexTo v (k + 1) = hexTo v k ++ Sha.hexW (v.toList.getD k 0) := by
  have hl : k < v.toList.length := by simp [Sha.V.toList]; omega
  unfold hexTo
  rw [List.take_succ_eq_append_getElem hl, List.map_append, List.flatten_append]
  simp [List.getD, hl]
theorem hexTo_all (s : List UInt8) : hexTo (Sha.sum s) 8 = Sha.hex s := by
  unfold hexTo Sha.hex
  rw [List.take_of_length_le (by simp [Sha.V.toList])]

theorem byteCells_bv (l : List UInt8) : byteCells ⟨l.toArray⟩ = bv l := by simp [byteCells, bv]
theorem extract_one (l : List UInt8) (c : UInt8) : (⟨(c :: l).toArray⟩ : ByteArray).extract 1 (l.length + 1) = ⟨l.toArray⟩ := by
  apply ByteArray.ext
  apply Array.ext'
  simp [ByteArray.data_extract]

/-- What is appended for a word: its eight digits, without the ninth. -/
theorem src_hex (x : Sha.W) (w : World) : Src Tryd.prog 1 9 (.string ((⟨(49 :: Sha.hexW x).toArray⟩ : ByteArray).extract 1 ((Sha.hexW x).length + 1))) 8 (bv (Sha.hexW x)) w := by
  rw [extract_one, ← byteCells_bv]
  have h := Src.ofString (P := Tryd.prog) w Tryd.underlying9 ⟨(Sha.hexW x).toArray⟩
  have e : (⟨(Sha.hexW x).toArray⟩ : ByteArray).size = 8 := by
    show (Sha.hexW x).toArray.size = 8
    simp [Sha.hexW_length]
  rw [e] at h
  exact h

set_option maxHeartbeats 1000000 in
set_option maxRecDepth 100000 in
theorem Sum_any (s : ByteArray) (w : World) (hs : s.size ≤ 1000000) (ht : Tabs w) :
    Calls Tryd.prog 50 #[.string s] w fun e w' => e = .returned (.string ⟨(Sha.hex s.data.toList).toArray⟩) ∧ Below w.heap.size w w' := by
  have hmk : ∀ w : World, (Instr.makeSlice 106 (.int .i64 0) (.int .i64 64)).run Tryd.prog w = .ok (.slice (some ⟨w.heap.size, 0, none⟩) 0 64) (w.alloc (.cells (Array.replicate 64 (.int .u8 0)) 5)) := fun _ => by kernel_rfl
  have hown : Own (w.alloc (.cells (Array.replicate 64 (.int .u8 0)) 5)) w.heap.size 1 (.slice (some ⟨w.heap.size, 0, none⟩) 0 64) 0 [] :=
    ⟨by simp, .inr ⟨_, 0, 64, rfl, Nat.le_refl _, by simp, by omega, by unfold maxLen; omega, fun j u h => by simp at h, there_new _ _ _ _ (by simp)⟩⟩
  have HO := Lib.hid hown
  have HT := Lib.hid ht
  clear hown ht
  go_enter Tryd.func50, Tryd.ntmps50
  go_wp2_with (go_at_call 84; refine (sum_any _ _ hs (HT.out.alloc _)).mono ?_; rintro e w1 ⟨rfl, hb⟩)
  have hb1 : Below w.heap.size w w1 := ((Below.refl _ _).alloc (Nat.le_refl _) _).trans (hb.mono (by simp))
  have ho1 := HO.out.below hb
  have hsz1 : w.heap.size ≤ w1.heap.size := hb1.size
  have HB1 := Lib.hid hb1
  have HO1 := Lib.hid ho1
  clear hb hb1 ho1 HO hmk
  generalize hvs : Sha.sum s.data.toList = vs
  have HVS := Lib.hid hvs
  clear hvs
  go_loopg [3, 9] 8 (fun gk v i wr => ∃ k, k + gk = 8 ∧ i = .int .i64 (k : Nat) ∧ Own wr w.heap.size 1 v (8 * k) (bv (hexTo vs k)) ∧ Below w.heap.size w wr)
  case atStart => exact ⟨0, by omega, rfl, HO1.out, HB1.out⟩
  case round =>
    clear HB1 HO1 hsz1
    obtain ⟨k, hk, rfl, hown, hb⟩ := hrel
    obtain ⟨ao, cap, rfl, hc1, hc2⟩ := hown.shape
    by_cases hlt : k < 8
    · obtain ⟨i0, hi, hz0, hz1, hz2⟩ := info_parts infoU32
      have hix := Lib.hid (Sha.V_get vs k hlt)
      have HS := Lib.hid (hexTo_succ vs k hlt)
      have HI := Lib.hid hi
      have HZ1 := Lib.hid hz1
      clear hi hz0 hz1 hz2
      generalize hx : vs.toList.getD k 0 = x at hix HS
      clear hx
      have HT2 := Lib.hid (HT.out.below hb (Nat.le_refl _))
      have HOW := Lib.hid hown
      have HB := Lib.hid hb
      have hsz := hb.size
      clear hown hb
      go_wp2_with (first | (with_reducible refine wpList_index_agg rfl 108 (.tmp 8) (.tmp 9) rfl 107 8 i0 .u32 Tryd.underlying108 Tryd.underlying107 HI.out HZ1.out _ rfl k rfl _ hlt hix.out ?_) | (go_at_call 85; refine (fmt16 x _ HT2.out.bruijn HT2.out.ltBruijn).mono ?_; rintro e w2 ⟨rfl, hb2⟩) | (at_builtin; refine app_u8 rfl _ _ 9 rfl w.heap.size _ _ _ rfl (HOW.out.below hb2) _ 8 (bv (Sha.hexW x)) rfl (src_hex x _) (by omega) (by have := hb2.size; omega) ?_; intro v3 w3 hown3 hgrow3 _))
      have hb3 : Below w.heap.size w w3 := (HB.out.trans (hb2.mono hsz)).grown hgrow3 (by have := hb2.size; omega) (fun g hg => (HOW.out.lt g hg).1)
      have hs3 := HS.out
      go_roundg (gk - 1)
      case measure => omega
      case rel => exact ⟨k + 1, by omega, by go_num, by rw [hs3, bv_append]; exact hown3, hb3⟩
    · obtain rfl : gk = 0 := by omega
      obtain rfl : k = 8 := by omega
      obtain ⟨g, o, cap', hv, hg1, hg2, hc3, hc4, hr, _⟩ := hown.place (by omega)
      cases hv
      have hl := hexTo_length vs 8 (by omega)
      have HR := Lib.hid hr
      have HL := Lib.hid hl
      have HB := Lib.hid hb
      clear hr hl hb hown hlt hk
      generalize hds : hexTo vs 8 = ds at HR HL
      have HDS := Lib.hid hds
      clear hds
      go_wp2_with (with_reducible refine wpList_string rfl 106 9 _ rfl 5 g o 64 _ rfl ds HR.out HL.out Tryd.underlying106 Tryd.underlying5 Tryd.underlying9 ?_)
      go_ret
      exact ⟨by rw [← hexTo_all, HVS.out, HDS.out]; rfl, HB.out⟩
end Go.Proofs.YtpdbcahiipbhnaaDoor
