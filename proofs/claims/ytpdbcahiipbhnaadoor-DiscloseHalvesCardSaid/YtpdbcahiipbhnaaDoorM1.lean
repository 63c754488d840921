/- Layer 31: chain.words. -/
import Derived.Test.YtpdbcahiipbhnaaDoorMB
namespace Go.Proofs.YtpdbcahiipbhnaaDoor
open Go.RowKit

theorem builder_str {B b : Nat} {p : Value} {l : List UInt8} {s : ByteArray} {w : World} (h : Lib.BuilderAt BT U8 B b p (Lib.byteCells l ++ Lib.strCells s) w) : Lib.BuilderAt BT U8 B b p (Lib.byteCells (l ++ s.data.toList)) w := by
  rw [Lib.byteCells_append, ← Lib.strCells_eq]; exact h
theorem builder_chr {B b : Nat} {p : Value} {l : List UInt8} {c : UInt8} {w : World} (h : Lib.BuilderAt BT U8 B b p (Lib.byteCells l ++ [.int .u8 (c.toNat : Int)]) w) : Lib.BuilderAt BT U8 B b p (Lib.byteCells (l ++ [c])) w := by
  rw [Lib.byteCells_append]; exact h
theorem take_snoc' {α : Type} {l : List α} {k : Nat} {x : α} (h : l[k]? = some x) : l.take (k + 1) = l.take k ++ [x] := by
  rw [List.take_add_one, h]; rfl

set_option maxHeartbeats 1000000 in
set_option maxRecDepth 100000 in
theorem cwords_any (f : ByteArray) (l : List Int) (b o c : Nat) (w : World) (hf : 0 < f.size) (hf2 : f.size ≤ 1000000) (hl : l.length ≤ 100) (hI : ∀ n ∈ l, I64 n)
    (hbl : b < w.heap.size) (hc : ∀ j n, l[j]? = some n → w.cell? ⟨b, o + j, none⟩ = some (.int .i64 n)) (ht : Tabs w) :
    Calls Tryd.prog 78 #[.string f, .slice (some ⟨b, o, none⟩) l.length c] w fun e w' => e = .returned (.string (wordsB f l)) ∧ Below w.heap.size w w' := by
  have HC := Lib.hid hc
  have HT := Lib.hid ht
  have HF := Lib.hid (Lib.fresh_isBuilder BT U8 w)
  have HS := Lib.hid (And.intro hf hf2)
  have hfl : f.size = f.data.toList.length := by show f.data.size = _; simp
  have HFL := Lib.hid hfl
  have hb0 : Below w.heap.size w (w.alloc (.cells #[.pointer none, .slice none 0 0] BT)) := (Below.refl _ _).alloc (Nat.le_refl _) _
  have HB0 := Lib.hid hb0
  have hs0 : w.heap.size ≤ (w.alloc (.cells #[.pointer none, .slice none 0 0] BT)).heap.size := by simp
  have HW := Lib.hid (fun n (h : I64 n) w ht => Itoa_int n w h ht)
  have HI := Lib.hid hI
  have HLE := Lib.hid (fun k => wordsL_len f.data.toList (l.take k) (fun n hn => hI n (List.mem_of_mem_take hn)))
  have hll : l.length ≤ 100 := hl
  clear hc ht hf hf2 hfl hb0 hI
  go_enter Tryd.func78, Tryd.ntmps78
  go_wp2_with fail
  generalize w.alloc (.cells #[.pointer none, .slice none 0 0] BT) = w0 at *
  refine (WriteString_any w.heap.size w.heap.size [] f w0 HF.out (by have := HS.out.2; simp; omega) hs0).mono ?_
  rintro e w1 ⟨rfl, h1, b1⟩
  have H1 : Hid (Bld w1 w.heap.size w.heap.size f.data.toList) := Lib.hid (by simpa [Lib.strCells_eq] using h1)
  have HB1 := Lib.hid (HB0.out.trans b1)
  clear h1 b1 HF HB0 hs0
  go_wp2_with fail
  go_loopg [12] l.length (fun gk v wr => ∃ k, k + gk = l.length ∧ v = .int .i64 (k : Nat) ∧ Bld wr w.heap.size w.heap.size (wordsL f.data.toList (l.take k)) ∧ Below w.heap.size w wr)
  case atStart => exact ⟨0, by omega, rfl, by simpa [wordsL] using H1.out, HB1.out⟩
  case round =>
    clear H1 HB1
    obtain ⟨k, hk, rfl, hbd, hbe⟩ := hrel
    have hle := HLE.out k
    rw [List.length_take, ← HFL.out] at hle
    have hs2 := HS.out.2
    have HBD := Lib.hid hbd
    have HBE := Lib.hid hbe
    have hsz := hbe.size
    clear hbd hbe
    by_cases hlt : k < l.length
    · obtain ⟨n, hn⟩ : ∃ n, l[k]? = some n := ⟨_, List.getElem?_eq_getElem hlt⟩
      have hcell : wr.cell? ⟨b, o + k, none⟩ = some (.int .i64 n) := (HBE.out.cell (p := ⟨b, o + k, none⟩) hbl).trans (HC.out k n hn)
      have hnI := HI.out n (List.mem_of_getElem? hn)
      have HNI := Lib.hid hnI
      have HTK := Lib.hid (take_snoc' hn)
      have hns := numB_size n hnI
      clear hn hnI
      go_wp2_with fail
      refine (WriteByte_any w.heap.size w.heap.size _ 32 wr (.inr HBD.out) (by rw [Lib.byteCells_length]; omega) hsz).mono ?_
      rintro e w2 ⟨rfl, h2, b2⟩
      have H2 := Lib.hid (builder_chr (c := 32) h2)
      have HB2 := Lib.hid (HBE.out.trans b2)
      have hz2 := b2.size
      clear h2 b2 HBD HBE hcell
      go_wp2_with fail
      refine (HW.out n HNI.out w2 (HT.out.below HB2.out (Nat.le_refl _))).mono ?_
      rintro e w3 ⟨rfl, b3⟩
      have H3 := Lib.hid (builder_below H2.out b3)
      have HB3 := Lib.hid (HB2.out.trans (b3.mono (by omega)))
      have hz3 := b3.size
      clear b3 H2 HB2
      go_wp2_with fail
      refine (WriteString_any w.heap.size w.heap.size _ (numB n) w3 (.inr H3.out) (by rw [Lib.byteCells_length, List.length_append, List.length_singleton]; omega) (by omega)).mono ?_
      rintro e w4 ⟨rfl, h4, b4⟩
      have H4 := Lib.hid (builder_str h4)
      have HB4 := Lib.hid (HB3.out.trans b4)
      clear h4 b4 H3 HB3
      go_wp2_with fail
      go_roundg (gk - 1)
      case measure => omega
      case rel => exact ⟨k + 1, by omega, by go_num, by rw [HTK.out, wordsL_snoc, ← numB_list]; simpa using H4.out, HB4.out⟩
    · obtain rfl : gk = 0 := by omega
      obtain rfl : k = l.length := by omega
      have hne : wordsL f.data.toList l ≠ [] := fun h => by
        have h2 : f.data.toList = [] := (List.append_eq_nil_iff.1 h).1
        have h3 : f.size = 0 := by rw [HFL.out, h2]; rfl
        have := HS.out.1
        omega
      have HS2 := Lib.hid (Tryd.Builder_String w.heap.size w.heap.size (wordsL f.data.toList l) wr (.inr (by have := HBD.out; rwa [List.take_length] at this)) hne)
      clear hne hle
      go_wp2_with fail
      refine HS2.out.mono ?_
      rintro e w2 ⟨rfl, b2⟩
      have HB2 := Lib.hid (HBE.out.trans b2)
      clear b2
      go_wp2_with fail
      go_ret
      exact ⟨by rw [wordsB_eq]; rfl, HB2.out⟩
end Go.Proofs.YtpdbcahiipbhnaaDoor
