/- Layer 34, plainly: trees of digests, paths. -/
import Derived.Test.YtpdbcahiipbhnaaDoorM0
import Derived.Test.YtpdbcahiipbhnaaDoorL28
namespace Go.Proofs.YtpdbcahiipbhnaaDoor
open Go.RowKit

/-- The number of leaves of the first half. -/
@[irreducible] def halfN (n : Nat) : Nat := 2 ^ Nat.log2 (n - 1)
theorem halfN_eq (n : Nat) : halfN n = 2 ^ Nat.log2 (n - 1) := by unfold halfN; rfl
theorem halfN_pos (n : Nat) : 1 ≤ halfN n := by rw [halfN_eq]; exact Nat.one_le_two_pow
theorem halfN_lt {n : Nat} (h : 2 ≤ n) : halfN n < n := by
  rw [halfN_eq]
  have := Nat.log2_self_le (n := n - 1) (by omega)
  omega
theorem halfN_le {n : Nat} (h : 2 ≤ n) : n ≤ 2 * halfN n := by
  rw [halfN_eq]
  have := Nat.lt_log2_self (n := n - 1)
  rw [Nat.pow_succ] at this
  omega
/-- The power of two that is less than n and not less than its half is the half. -/
theorem halfN_is {n j : Nat} (h1 : j = 0 ∨ 2 ^ j < n) (h2 : n ≤ 2 ^ j * 2) : 2 ^ j = halfN n := by
  rw [halfN_eq]
  congr 1
  rcases Nat.lt_or_ge n 2 with h | h
  · have hj : j = 0 := by
      rcases h1 with h1 | h1
      · exact h1
      · have := Nat.one_le_two_pow (n := j); omega
    subst hj
    have : n - 1 = 0 := by omega
    rw [this]; rfl
  · refine ((Nat.log2_eq_iff (by omega)).2 ⟨?_, ?_⟩).symm
    · rcases h1 with h1 | h1
      · subst h1; show 1 ≤ n - 1; omega
      · omega
    · rw [Nat.pow_succ]; omega

/-- The root of n leaves from lo on. -/
def rootR {α : Type} (nd : α → α → α) (f : Nat → α) (lo n : Nat) : α :=
  if _h : 2 ≤ n then nd (rootR nd f lo (halfN n)) (rootR nd f (lo + halfN n) (n - halfN n)) else f lo
termination_by n
decreasing_by
  · exact halfN_lt (by assumption)
  · have := halfN_pos n; omega
theorem rootR_one {α : Type} (nd : α → α → α) (f : Nat → α) (lo n : Nat) (h : n < 2) : rootR nd f lo n = f lo := by rw [rootR, dif_neg (by omega)]
theorem rootR_two {α : Type} (nd : α → α → α) (f : Nat → α) (lo n : Nat) (h : 2 ≤ n) : rootR nd f lo n = nd (rootR nd f lo (halfN n)) (rootR nd f (lo + halfN n) (n - halfN n)) := by rw [rootR, dif_pos h]
theorem rootR_shift {α : Type} (nd : α → α → α) (f : Nat → α) (a : Nat) : ∀ (n lo : Nat), rootR nd (fun i => f (a + i)) lo n = rootR nd f (a + lo) n := by
  intro n
  induction n using Nat.strongRecOn with
  | ind n ih =>
    intro lo
    by_cases h : 2 ≤ n
    · rw [rootR_two _ _ _ _ h, rootR_two _ _ _ _ h, ih _ (halfN_lt h), ih _ (by have := halfN_pos n; omega), Nat.add_assoc]
    · rw [rootR_one _ _ _ _ (by omega), rootR_one _ _ _ _ (by omega)]
theorem rootR_congr {α : Type} (nd : α → α → α) (f g : Nat → α) : ∀ (n lo : Nat), (∀ i, lo ≤ i → i < lo + n → f i = g i) → 1 ≤ n → rootR nd f lo n = rootR nd g lo n := by
  intro n
  induction n using Nat.strongRecOn with
  | ind n ih =>
    intro lo h hn
    by_cases h2 : 2 ≤ n
    · have hl := halfN_lt h2
      have hp := halfN_pos n
      rw [rootR_two _ _ _ _ h2, rootR_two _ _ _ _ h2, ih _ hl lo (fun i h1 h2 => h i h1 (by omega)) hp, ih _ (by omega) (lo + halfN n) (fun i h1 h2 => h i (by omega) (by omega)) (by omega)]
    · rw [rootR_one _ _ _ _ (by omega), rootR_one _ _ _ _ (by omega)]; exact h lo (Nat.le_refl _) (by omega)

/-- A subtree to which a leaf belongs. -/
structure Lev where
  lo : Nat
  mid : Nat
  hi : Nat
  first : Bool
/-- The subtrees to which the leaf i belongs, of n leaves from lo on, the greatest one first. -/
def lvls (i lo n : Nat) : List Lev :=
  if _h : 2 ≤ n then ⟨lo, lo + halfN n, lo + n, decide (i < lo + halfN n)⟩ :: (if i < lo + halfN n then lvls i lo (halfN n) else lvls i (lo + halfN n) (n - halfN n)) else []
termination_by n
decreasing_by
  · exact halfN_lt (by assumption)
  · have := halfN_pos n; omega
theorem lvls_one (i lo n : Nat) (h : n < 2) : lvls i lo n = [] := by rw [lvls, dif_neg (by omega)]
theorem lvls_two (i lo n : Nat) (h : 2 ≤ n) : lvls i lo n = ⟨lo, lo + halfN n, lo + n, decide (i < lo + halfN n)⟩ :: (if i < lo + halfN n then lvls i lo (halfN n) else lvls i (lo + halfN n) (n - halfN n)) := by rw [lvls, dif_pos h]
theorem lvls_len (i : Nat) : ∀ (n lo : Nat), (lvls i lo n).length ≤ n - 1 := by
  intro n
  induction n using Nat.strongRecOn with
  | ind n ih =>
    intro lo
    by_cases h : 2 ≤ n
    · have hl := halfN_lt h
      have hp := halfN_pos n
      rw [lvls_two _ _ _ h, List.length_cons]
      split
      · have := ih _ hl lo; omega
      · have := ih (n - halfN n) (by omega) (lo + halfN n); omega
    · rw [lvls_one _ _ _ (by omega)]; simp
/-- What a level is: not empty on both sides, within the leaves. -/
theorem lvls_in (i : Nat) : ∀ (n lo : Nat), ∀ x ∈ lvls i lo n, lo ≤ x.lo ∧ x.lo < x.mid ∧ x.mid < x.hi ∧ x.hi ≤ lo + n := by
  intro n
  induction n using Nat.strongRecOn with
  | ind n ih =>
    intro lo x hx
    by_cases h : 2 ≤ n
    · have hl := halfN_lt h
      have hp := halfN_pos n
      rw [lvls_two _ _ _ h] at hx
      rcases List.mem_cons.1 hx with rfl | hx
      · exact ⟨Nat.le_refl _, by show lo < lo + _; omega, by show lo + _ < lo + n; omega, Nat.le_refl _⟩
      · split at hx
        · have := ih _ hl lo x hx; omega
        · have := ih (n - halfN n) (by omega) (lo + halfN n) x hx; omega
    · rw [lvls_one _ _ _ (by omega)] at hx; cases hx
/-- What lies beside the leaf at a level. -/
def besideL {α : Type} (nd : α → α → α) (f : Nat → α) (x : Lev) : α := if x.first then rootR nd f x.mid (x.hi - x.mid) else rootR nd f x.lo (x.mid - x.lo)
/-- The path of the leaf i, the leaf's end first. -/
def pathL {α : Type} (nd : α → α → α) (f : Nat → α) (i n : Nat) : List α := ((lvls i 0 n).map (besideL nd f)).reverse
/-- One step up. -/
def upL {α : Type} (nd : α → α → α) (now : α) (x : Lev) (o : α) : α := if x.first then nd now o else nd o now
/-- What a proof leads to: the levels, the leaf's end first. -/
def leadL {α : Type} (nd : α → α → α) : α → List Lev → List α → α
  | now, x :: xs, o :: os => leadL nd (upL nd now x o) xs os
  | now, _, _ => now
theorem leadL_snoc {α : Type} (nd : α → α → α) (x : Lev) (o : α) : ∀ (xs : List Lev) (os : List α) (now : α), xs.length = os.length → leadL nd now (xs ++ [x]) (os ++ [o]) = upL nd (leadL nd now xs os) x o
  | [], [], now, _ => rfl
  | y :: ys, p :: ps, now, h => by simp only [List.cons_append, leadL]; exact leadL_snoc nd x o ys ps _ (by simpa using h)
  | [], _ :: _, _, h => by simp at h
  | _ :: _, [], _, h => by simp at h
/-- The path of a leaf leads to the root. -/
theorem lead_path {α : Type} (nd : α → α → α) (f : Nat → α) (i : Nat) : ∀ (n lo : Nat), lo ≤ i → i < lo + n → leadL nd (f i) (lvls i lo n).reverse ((lvls i lo n).map (besideL nd f)).reverse = rootR nd f lo n := by
  intro n
  induction n using Nat.strongRecOn with
  | ind n ih =>
    intro lo h1 h2
    by_cases h : 2 ≤ n
    · have hl := halfN_lt h
      have hp := halfN_pos n
      rw [lvls_two _ _ _ h, rootR_two _ _ _ _ h, List.map_cons, List.reverse_cons, List.reverse_cons]
      rw [leadL_snoc _ _ _ _ _ _ (by simp)]
      by_cases hi : i < lo + halfN n
      · rw [if_pos hi, ih _ hl lo h1 hi]
        simp only [upL, besideL, decide_eq_true hi, if_true]
        rw [show lo + n - (lo + halfN n) = n - halfN n by omega]
      · rw [if_neg hi, ih (n - halfN n) (by omega) (lo + halfN n) (by omega) (by omega)]
        simp only [upL, besideL, decide_eq_false hi]
        rw [show lo + halfN n - lo = halfN n by omega]
        rfl
    · rw [lvls_one _ _ _ (by omega), rootR_one _ _ _ _ (by omega), show i = lo by omega]; rfl
theorem pathL_len {α : Type} (nd : α → α → α) (f : Nat → α) (i n : Nat) : (pathL nd f i n).length = (lvls i 0 n).length := by unfold pathL; simp

/-- The text under a digest: a word, a text with its length, another text. -/
@[irreducible] def tagT (u a b : ByteArray) : ByteArray := u ++ ⟨#[32]⟩ ++ numB a.size ++ ⟨#[32]⟩ ++ a ++ b
theorem tagT_eq (u a b : ByteArray) : tagT u a b = u ++ ⟨#[32]⟩ ++ numB a.size ++ ⟨#[32]⟩ ++ a ++ b := by unfold tagT; rfl
/-- The digest of a word, a text with its length, another text. -/
@[irreducible] def tagB (u a b : ByteArray) : ByteArray := hexB (tagT u a b).data.toList
theorem tagB_eq (u a b : ByteArray) : tagB u a b = hexB (tagT u a b).data.toList := by unfold tagB; rfl
theorem tagB_size (u a b : ByteArray) : (tagB u a b).size = 64 := by rw [tagB_eq, hexB_size]
theorem tagT_size (u a b : ByteArray) (ha : a.size ≤ 1000000) : (tagT u a b).size ≤ u.size + 22 + a.size + b.size := by
  have h1 := numB_size a.size ⟨by omega, by omega⟩
  have h2 : (⟨#[32]⟩ : ByteArray).size = 1 := rfl
  rw [tagT_eq, ByteArray.size_append, ByteArray.size_append, ByteArray.size_append, ByteArray.size_append, ByteArray.size_append]
  omega
abbrev nodeW : ByteArray := ⟨#[110, 111, 100, 101]⟩
abbrev leafW : ByteArray := ⟨#[108, 101, 97, 102]⟩
/-- The node of two texts. -/
abbrev nodB (a b : ByteArray) : ByteArray := tagB nodeW a b
end Go.Proofs.YtpdbcahiipbhnaaDoor
