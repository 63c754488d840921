/- Layer 01: Parse: plain. -/
import Derived.Test.YtfcdoifijgbjeaaDoorED
import Derived.Lib.CutLaws
import Derived.Lib.IndexLaws
import Derived.Lib.ParseIntB
namespace Go.Proofs.YtfcdoifijgbjeaaDoor
open Go.RowKit

theorem occ47 (s : List UInt8) (j : Nat) : Lib.occAt s [47] j = decide (s[j]? = some 47) := by
  unfold Lib.occAt
  rcases h : s[j]? with _ | c
  · have : s.length ≤ j := List.getElem?_eq_none_iff.1 h
    simp [List.drop_eq_nil_of_le this]
  · obtain ⟨hj, hc⟩ := List.getElem?_eq_some_iff.1 h
    rw [List.drop_eq_getElem_cons hj, hc]
    by_cases e : c = 47
    · subst e; simp
    · rw [decide_eq_false (fun h => e (Option.some.inj h))]
      simp only [List.isPrefixOf, Bool.and_true, beq_eq_false_iff_ne]
      exact fun h => e h.symm
theorem cut_hit (a b : List UInt8) (h : ∀ c ∈ a, c ≠ 47) : Lib.cut (a ++ 47 :: b) [47] = (a, b, true) := by
  have hi : Lib.index (a ++ 47 :: b) [47] = a.length := Lib.index_hit (fun j hj => by
    rw [occ47, List.getElem?_append_left hj]
    simp only [decide_eq_false_iff_not]
    intro e
    exact h _ (List.mem_of_getElem? e) rfl) (by simp) (by rw [occ47]; simp)
  unfold Lib.cut
  rw [hi, if_pos (by omega)]
  simp
theorem cut_miss (a : List UInt8) (h : ∀ c ∈ a, c ≠ 47) : Lib.cut a [47] = (a, [], false) := by
  have hi : Lib.index a [47] = -1 := Lib.index_past (i := a.length) (by simp) (fun j hj => by
    rw [occ47]
    simp only [decide_eq_false_iff_not]
    intro e
    exact h _ (List.mem_of_getElem? e) rfl) (by simp)
  unfold Lib.cut
  rw [hi, if_neg (by omega)]

theorem dec_digit (n : Nat) : ∀ c ∈ Lib.decDigits n, 48 ≤ c.toNat ∧ c.toNat ≤ 57 := by
  induction n using Nat.strongRecOn with
  | ind n ih =>
    have one : ∀ d, d < 10 → ∀ c ∈ [UInt8.ofNat (48 + d)], 48 ≤ c.toNat ∧ c.toNat ≤ 57 := fun d hd c hc => by
      simp only [List.mem_singleton] at hc
      rw [hc, UInt8.toNat_ofNat']; omega
    by_cases h : n < 10
    · rw [Lib.decDigits_one h]; exact one n h
    · have e : Lib.decDigits n = Lib.decDigits (n / 10) ++ [UInt8.ofNat (48 + n % 10)] := by rw [Lib.decDigits, dif_neg h]
      rw [e]
      intro c hc
      rcases List.mem_append.1 hc with h1 | h1
      · exact ih (n / 10) (by omega) c h1
      · exact one _ (by omega) c h1
theorem dec_ne (n : Nat) : Lib.decDigits n ≠ [] := by
  intro h
  rw [Lib.decDigits] at h
  split at h <;> simp at h
theorem parse_snoc (M : Nat) (c : UInt8) : ∀ (l : List UInt8) (acc v : Nat), Lib.parseUintM M acc l = .ok v → 48 ≤ c.toNat → c.toNat ≤ 57 → v < 1844674407370955162 → v * 10 + (c.toNat - 48) ≤ M →
    Lib.parseUintM M acc (l ++ [c]) = .ok (v * 10 + (c.toNat - 48))
  | [], acc, v, h, h1, h2, h3, h4 => by
    simp only [Lib.parseUintM, Lib.NumEnd.ok.injEq] at h
    subst h
    simp only [List.nil_append, Lib.parseUintM]
    rw [if_pos ⟨h1, h2⟩, if_neg (by omega), if_neg (by omega)]
  | x :: r, acc, v, h, h1, h2, h3, h4 => by
    simp only [Lib.parseUintM] at h
    simp only [List.cons_append, Lib.parseUintM]
    split at h
    · rename_i hd
      rw [if_pos hd]
      split at h
      · cases h
      · rename_i h5
        rw [if_neg h5]
        split at h
        · cases h
        · rename_i h6
          rw [if_neg h6]
          exact parse_snoc M c r _ v h h1 h2 h3 h4
    · cases h
theorem parse_dec (M : Nat) (hM : 1000000000000000 ≤ M) (n : Nat) : n ≤ 1000000000000000 → Lib.parseUintM M 0 (Lib.decDigits n) = .ok n := by
  induction n using Nat.strongRecOn with
  | ind n ih =>
    intro hn
    have hc : ∀ d, d < 10 → (UInt8.ofNat (48 + d)).toNat = 48 + d := fun d hd => by rw [UInt8.toNat_ofNat']; omega
    by_cases h : n < 10
    · rw [Lib.decDigits_one h]
      simp only [Lib.parseUintM, hc n h]
      rw [if_pos (by omega), if_neg (by omega), if_neg (by omega)]
      congr 1; omega
    · have e : Lib.decDigits n = Lib.decDigits (n / 10) ++ [UInt8.ofNat (48 + n % 10)] := by rw [Lib.decDigits, dif_neg h]
      have h10 := hc (n % 10) (by omega)
      rw [e, parse_snoc M _ _ 0 (n / 10) (ih (n / 10) (by omega) (by omega)) (by omega) (by omega) (by omega) (by rw [h10]; omega), h10]
      congr 1; omega
theorem pI_neg (r : List UInt8) (u : Nat) (h : Lib.parseUintB 64 r = .ok u) (hu : u ≤ 1000000000000) : Lib.parseIntB 64 (45 :: r) = .ok (-(u : Int)) := by
  unfold Lib.parseIntB
  simp only
  rw [show (if (45 : UInt8).toNat = 43 ∨ (45 : UInt8).toNat = 45 then r else 45 :: r) = r from if_pos (by decide), h]
  simp only
  rw [if_neg (fun x => x.1 rfl), if_neg (fun x => by have := x.2; omega), if_pos (by decide)]
theorem pI_pos (c : UInt8) (r : List UInt8) (u : Nat) (h1 : 48 ≤ c.toNat) (h : Lib.parseUintB 64 (c :: r) = .ok u) (hu : u ≤ 1000000000000) : Lib.parseIntB 64 (c :: r) = .ok (u : Int) := by
  unfold Lib.parseIntB
  simp only
  rw [show (if c.toNat = 43 ∨ c.toNat = 45 then r else c :: r) = c :: r from if_neg (by omega), h]
  simp only
  rw [if_neg (fun x => by have := x.2; omega), if_neg (fun x => by have := x.2; omega), if_neg (by omega)]
theorem parse_itoa (n : Int) (h : n.natAbs ≤ 1000000000000) : Lib.parseIntB 64 (Lib.itoa n) = .ok n := by
  have pU : ∀ m, m ≤ 1000000000000 → Lib.parseUintB 64 (Lib.decDigits m) = .ok m := fun m hm => by
    unfold Lib.parseUintB
    rw [if_neg (dec_ne m)]
    exact parse_dec _ (by decide) m (by omega)
  unfold Lib.itoa
  split
  · rw [pI_neg _ _ (pU n.natAbs h) h]
    congr 1; omega
  · have hp := pU n.toNat (by omega)
    rcases hd : Lib.decDigits n.toNat with _ | ⟨c, r⟩
    · exact absurd hd (dec_ne _)
    · have hc := dec_digit n.toNat c (by rw [hd]; simp)
      rw [hd] at hp
      rw [pI_pos c r _ hc.1 hp (by omega)]
      congr 1; omega
theorem itoa_no47 (n : Int) : ∀ c ∈ Lib.itoa n, c ≠ 47 := by
  unfold Lib.itoa
  intro c hc e
  subst e
  split at hc
  · rcases List.mem_cons.1 hc with h | h
    · exact absurd h (by decide)
    · have := dec_digit _ _ h; exact absurd this (by decide)
  · have := dec_digit _ _ hc; exact absurd this (by decide)
end Go.Proofs.YtfcdoifijgbjeaaDoor
