/- Layer 31: words of a text, entries, plainly. -/
import Derived.Test.YtpdbcahiipbhnaaDoorP8
namespace Go.Proofs.YtpdbcahiipbhnaaDoor
open Go.RowKit

/-- An integer's decimal numeral (kept shut). -/
@[irreducible] def numB (n : Int) : ByteArray := ⟨(Lib.itoa n).toArray⟩
theorem numB_eq (n : Int) : numB n = ⟨(Lib.itoa n).toArray⟩ := by unfold numB; rfl
theorem numB_list (n : Int) : (numB n).data.toList = Lib.itoa n := by rw [numB_eq]
def I64 (n : Int) : Prop := -9223372036854775808 ≤ n ∧ n ≤ 9223372036854775807
theorem Itoa_int (n : Int) (w : World) (hn : I64 n) (ht : Tabs w) :
    Calls Tryd.prog 87 #[.int .i64 n] w fun e w' => e = .returned (.string (numB n)) ∧ Below w.heap.size w w' := by
  refine (Tryd.strconv_Itoa n hn.1 hn.2 w ht.pow10).mono ?_
  rintro e w' ⟨rfl, k, os, rfl⟩
  exact ⟨by rw [numB_eq], Lib.below_grow _ w (Nat.le_refl _) k os⟩
theorem itoa_len (n : Int) (hn : I64 n) : (Lib.itoa n).length ≤ 20 := by
  unfold Lib.itoa
  have h1 := hn.1
  have h2 := hn.2
  split
  · have h3 := dec_len 18 n.natAbs (by omega)
    simp only [List.length_cons]
    first | omega | (have e : n.natAbs = (-n).toNat := by omega
                     rw [e] at h3; omega)
  · exact dec_len 19 n.toNat (by omega)
theorem numB_size (n : Int) (hn : I64 n) : (numB n).size ≤ 20 := by
  have e : (numB n).size = (Lib.itoa n).length := by rw [numB_eq]; show (Lib.itoa n).toArray.size = _; simp
  rw [e]; exact itoa_len n hn

/-- A word and numbers behind it. -/
def wordsL (f : List UInt8) (l : List Int) : List UInt8 := f ++ l.flatMap fun n => 32 :: Lib.itoa n
theorem wordsL_snoc (f : List UInt8) (l : List Int) (n : Int) : wordsL f (l ++ [n]) = wordsL f l ++ 32 :: Lib.itoa n := by
  unfold wordsL; simp
theorem wordsL_len (f : List UInt8) (l : List Int) (h : ∀ n ∈ l, I64 n) : (wordsL f l).length ≤ f.length + 21 * l.length := by
  induction l with
  | nil => simp [wordsL]
  | cons a l ih =>
    have h1 := ih fun n hn => h n (List.mem_cons_of_mem _ hn)
    have h2 := itoa_len a (h a List.mem_cons_self)
    simp only [wordsL, List.flatMap_cons, List.length_append, List.length_cons] at h1 ⊢
    omega
@[irreducible] def wordsB (f : ByteArray) (l : List Int) : ByteArray := ⟨(wordsL f.data.toList l).toArray⟩
theorem wordsB_eq (f : ByteArray) (l : List Int) : wordsB f l = ⟨(wordsL f.data.toList l).toArray⟩ := by unfold wordsB; rfl
theorem wordsB_size (f : ByteArray) (l : List Int) (h : ∀ n ∈ l, I64 n) : (wordsB f l).size ≤ f.size + 21 * l.length := by
  have e : (wordsB f l).size = (wordsL f.data.toList l).length := by rw [wordsB_eq]; show (wordsL _ l).toArray.size = _; simp
  have e2 : f.size = f.data.toList.length := by show f.data.size = _; simp
  rw [e, e2]; exact wordsL_len _ l h
end Go.Proofs.YtpdbcahiipbhnaaDoor
