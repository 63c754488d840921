/- Layer 01: Text. -/
import Derived.Test.YtfcdoifijgbjeaaDoorEB
import Derived.Test.YtfcdoifijgbjeaaDoorTabsR
import Derived.Lib.AppendIntMem
namespace Go.Proofs.YtfcdoifijgbjeaaDoor
open Go.RowKit

/-- The numeral of an integer (kept shut). -/
@[irreducible] def numB (n : Int) : ByteArray := ⟨(Lib.itoa n).toArray⟩
theorem numB_eq (n : Int) : numB n = ⟨(Lib.itoa n).toArray⟩ := by unfold numB; rfl
theorem Itoa_int (n : Int) (w : World) (h1 : -9223372036854775808 ≤ n) (h2 : n ≤ 9223372036854775807) (ht : Tabs w) :
    Calls Tryd.prog 45 #[.int .i64 n] w fun e w' => e = .returned (.string (numB n)) ∧ Below w.heap.size w w' := by
  refine (Tryd.strconv_Itoa n h1 h2 w ht.pow10).mono ?_
  rintro e w' ⟨rfl, k, os, rfl⟩
  refine ⟨?_, Lib.below_grow _ w (Nat.le_refl _) k os⟩
  rw [numB_eq]
theorem dec_len : ∀ (k n : Nat), n < 10 ^ (k + 1) → (Lib.decDigits n).length ≤ k + 1
  | 0, n, h => by rw [Lib.decDigits_one (by omega)]; simp
  | k + 1, n, h => by
    by_cases h0 : n < 10
    · rw [Lib.decDigits_one h0]; simp
    · have e : Lib.decDigits n = Lib.decDigits (n / 10) ++ [UInt8.ofNat (48 + n % 10)] := by rw [Lib.decDigits, dif_neg h0]
      rw [e, List.length_append]
      have := dec_len k (n / 10) (by rw [Nat.pow_succ] at h; omega)
      simp; omega
theorem numB_size (n : Int) (h1 : n.natAbs ≤ 1000000000000) : (numB n).size ≤ 20 := by
  have e : (numB n).size = (Lib.itoa n).length := by
    rw [numB_eq]
    show (Lib.itoa n).toArray.size = _
    simp
  rw [e]
  unfold Lib.itoa
  split
  · have := dec_len 12 n.natAbs (by omega)
    simp; omega
  · have := dec_len 12 n.toNat (by omega)
    omega

/-- The text of a valid ratio. -/
@[irreducible] def txt (q : Rat) : ByteArray := if (1 : Int) < q.den then numB q.num ++ (⟨#[47]⟩ ++ numB q.den) else numB q.num
theorem txt_frac {q : Rat} (h : (1 : Int) < q.den) : txt q = numB q.num ++ (⟨#[47]⟩ ++ numB q.den) := by unfold txt; rw [if_pos h]
theorem txt_int {q : Rat} (h : ¬ (1 : Int) < q.den) : txt q = numB q.num := by unfold txt; rw [if_neg h]

theorem box_facts (w : World) (n d : Int) :
    ((w.alloc (.cells #[.int .i64 n, .int .i64 d] 25)).cell? ⟨w.heap.size, 0, none⟩ = some (.int .i64 n) ∧ (w.alloc (.cells #[.int .i64 n, .int .i64 d] 25)).cell? ⟨w.heap.size, 1, none⟩ = some (.int .i64 d)) ∧
    Below w.heap.size w (w.alloc (.cells #[.int .i64 n, .int .i64 d] 25)) ∧ (w.alloc (.cells #[.int .i64 n, .int .i64 d] 25)).heap.size = w.heap.size + 1 :=
  ⟨⟨new0 rfl rfl, new0 rfl rfl⟩, (Below.refl w.heap.size w).alloc (Nat.le_refl _) _, by simp⟩

set_option maxHeartbeats 1000000 in
theorem Text_no (n d : Int) (w : World)
    (hV : ∀ w, Calls Tryd.prog 15 #[.agg #[.int .i64 n, .int .i64 d]] w fun e w' => e = .returned (.bool false) ∧ Below w.heap.size w w') :
    Calls Tryd.prog 22 #[.agg #[.int .i64 n, .int .i64 d]] w fun e w' => e = .returned (.string ⟨#[]⟩) ∧ Below w.heap.size w w' := by
  have HV := Lib.hid hV
  clear hV
  obtain ⟨⟨c0, c1⟩, hb, hz⟩ := box_facts w n d
  go_enter Tryd.func22, Tryd.ntmps22
  go_wp2_with fail
  refine (HV.out _).mono ?_
  rintro e w1 ⟨rfl, hb1⟩
  have HB1 := Lib.hid (hb.trans (hb1.mono (by omega)))
  clear hb1 hb c0 c1 hz
  go_wp2_with fail
  go_ret
  exact ⟨rfl, HB1.out⟩
set_option maxHeartbeats 1000000 in
theorem Text_int (n d : Int) (s : ByteArray) (w : World) (hd : ¬ 1 < d) (ht : Tabs w)
    (hV : ∀ w, Calls Tryd.prog 15 #[.agg #[.int .i64 n, .int .i64 d]] w fun e w' => e = .returned (.bool true) ∧ Below w.heap.size w w')
    (hI : ∀ w, Tabs w → Calls Tryd.prog 45 #[.int .i64 n] w fun e w' => e = .returned (.string s) ∧ Below w.heap.size w w') :
    Calls Tryd.prog 22 #[.agg #[.int .i64 n, .int .i64 d]] w fun e w' => e = .returned (.string s) ∧ Below w.heap.size w w' := by
  have HV := Lib.hid hV
  have HI := Lib.hid hI
  have HT := Lib.hid (ht.alloc (.cells #[.int .i64 n, .int .i64 d] 25))
  clear hV hI ht
  obtain ⟨hc, hb, hz⟩ := box_facts w n d
  have HC := Lib.hid hc
  obtain ⟨c0, c1⟩ := hc
  go_enter Tryd.func22, Tryd.ntmps22
  go_wp2_with fail
  generalize w.alloc (.cells #[.int .i64 n, .int .i64 d] 25) = w0 at *
  refine (HV.out _).mono ?_
  rintro e w1 ⟨rfl, hb1⟩
  have hs1 := hb1.size
  have HB1 := Lib.hid (hb.trans (hb1.mono (by omega)))
  have HT1 := Lib.hid (HT.out.below hb1 (Nat.le_refl _))
  have HC1 := Lib.hid (cells2_below HC.out hb1 (by omega))
  have HZ1 : Hid (w.heap.size < w1.heap.size) := Lib.hid (by omega)
  clear hb1 hb c0 c1 hz hs1
  obtain ⟨c0, c1⟩ := HC1.out
  go_wp2_with fail
  refine (HI.out _ HT1.out).mono ?_
  rintro e w2 ⟨rfl, hb2⟩
  have HB2 := Lib.hid (HB1.out.trans (hb2.mono (Nat.le_of_lt HZ1.out)))
  clear c0 c1
  obtain ⟨c0, c1⟩ := cells2_below HC1.out hb2 HZ1.out
  clear hb2
  go_wp2_with fail
  go_ret
  exact ⟨rfl, HB2.out⟩
set_option maxHeartbeats 1000000 in
theorem Text_frac (n d : Int) (s u : ByteArray) (w : World) (hd : 1 < d) (ht : Tabs w) (hs : s.size ≤ 20) (hu : u.size ≤ 20)
    (hV : ∀ w, Calls Tryd.prog 15 #[.agg #[.int .i64 n, .int .i64 d]] w fun e w' => e = .returned (.bool true) ∧ Below w.heap.size w w')
    (hI : ∀ w, Tabs w → Calls Tryd.prog 45 #[.int .i64 n] w fun e w' => e = .returned (.string s) ∧ Below w.heap.size w w')
    (hJ : ∀ w, Tabs w → Calls Tryd.prog 45 #[.int .i64 d] w fun e w' => e = .returned (.string u) ∧ Below w.heap.size w w') :
    Calls Tryd.prog 22 #[.agg #[.int .i64 n, .int .i64 d]] w fun e w' => e = .returned (.string (s ++ (⟨#[47]⟩ ++ u))) ∧ Below w.heap.size w w' := by
  have HV := Lib.hid hV
  have HI := Lib.hid hI
  have HJ := Lib.hid hJ
  have HT := Lib.hid (ht.alloc (.cells #[.int .i64 n, .int .i64 d] 25))
  clear hV hI hJ ht
  obtain ⟨hc, hb, hz⟩ := box_facts w n d
  have HC := Lib.hid hc
  obtain ⟨c0, c1⟩ := hc
  go_enter Tryd.func22, Tryd.ntmps22
  go_wp2_with fail
  generalize w.alloc (.cells #[.int .i64 n, .int .i64 d] 25) = w0 at *
  refine (HV.out _).mono ?_
  rintro e w1 ⟨rfl, hb1⟩
  have hs1 := hb1.size
  have HB1 := Lib.hid (hb.trans (hb1.mono (by omega)))
  have HT1 := Lib.hid (HT.out.below hb1 (Nat.le_refl _))
  have HC1 := Lib.hid (cells2_below HC.out hb1 (by omega))
  have HZ1 : Hid (w.heap.size < w1.heap.size) := Lib.hid (by omega)
  clear hb1 hb c0 c1 hz hs1
  obtain ⟨c0, c1⟩ := HC1.out
  go_wp2_with fail
  refine (HI.out _ HT1.out).mono ?_
  rintro e w2 ⟨rfl, hb2⟩
  have HB2 := Lib.hid (HB1.out.trans (hb2.mono (Nat.le_of_lt HZ1.out)))
  have HT2 := Lib.hid (HT1.out.below hb2 (Nat.le_refl _))
  have HZ2 := Lib.hid (Nat.lt_of_lt_of_le HZ1.out hb2.size)
  clear c0 c1
  obtain ⟨c0, c1⟩ := cells2_below HC1.out hb2 HZ1.out
  clear hb2
  go_wp2_with fail
  refine (HJ.out _ HT2.out).mono ?_
  rintro e w3 ⟨rfl, hb3⟩
  have HB3 := Lib.hid (HB2.out.trans (hb3.mono (Nat.le_of_lt HZ2.out)))
  clear hb3 c0 c1
  have z1 : (⟨#[47]⟩ : ByteArray).size = 1 := rfl
  have z2 : 1 + u.size ≤ 9223372036854775807 := by omega
  have z3 : s.size + (1 + u.size) ≤ 9223372036854775807 := by omega
  go_wp2_with fail
  go_ret
  exact ⟨rfl, HB3.out⟩
/-- Text at a valid ratio. -/
theorem Text_ok (q : Rat) (w : World) (hq : Rok q) (ht : Tabs w) :
    Calls Tryd.prog 22 #[.agg #[.int .i64 q.num, .int .i64 q.den]] w fun e w' => e = .returned (.string (txt q)) ∧ Below w.heap.size w w' := by
  obtain ⟨⟨h1, h2⟩, h3, h4⟩ := Rok_i64 hq
  have h5 := hq.1
  have h6 := hq.2
  by_cases h : (1 : Int) < q.den
  · rw [txt_frac h]
    exact Text_frac _ _ _ _ w h ht (numB_size _ h5) (numB_size _ (by omega)) (V_ok hq) (fun w ht => Itoa_int _ w h1 h2 ht) (fun w ht => Itoa_int _ w h3 h4 ht)
  · rw [txt_int h]
    exact Text_int _ _ _ w h ht (V_ok hq) (fun w ht => Itoa_int _ w h1 h2 ht)
end Go.Proofs.YtfcdoifijgbjeaaDoor
