/- Layer 31: no forks in a chain, beginnings of a chain, plainly. -/
import Derived.Test.YtpdbcahiipbhnaaDoorMQ
namespace Go.Proofs.YtpdbcahiipbhnaaDoor

theorem eqE_comm (a b : Ent) : eqE a b = eqE b a := by
  rw [Bool.eq_iff_iff, eqE_iff, eqE_iff]; exact eq_comm
theorem frkE_comm (y : Int) (a b : Ent) : frkE y a b = frkE y b a := by
  rw [frkE_eq, frkE_eq, eqE_comm b a, show decide (b.house = a.house) = decide (a.house = b.house) by simp [eq_comm], show decide (b.seq = a.seq) = decide (a.seq = b.seq) by simp [eq_comm], Bool.and_assoc _ (a.sgd y), Bool.and_assoc _ (b.sgd y), Bool.and_comm (a.sgd y)]
theorem frkE_self (y : Int) (a : Ent) : frkE y a a = false := by rw [frkE_eq, eqE_self]; rfl
theorem chain_nofork {ho y : Int} {l : List Ent} (h : (chkE ho y l).1 = 0) {j k : Nat} {a b : Ent} (ha : l[j]? = some a) (hb : l[k]? = some b) : frkE y a b = false := by
  obtain ⟨_, a2, _⟩ := chain_at h ha
  obtain ⟨_, b2, _⟩ := chain_at h hb
  by_cases e : j = k
  · subst e; rw [ha] at hb; cases hb; exact frkE_self y a
  · rw [frkE_eq, decide_eq_false (show ¬ a.seq = b.seq by omega)]; simp
/-- What is wrong first is wrong in the beginning that ends there. -/
theorem chkFrom_bad (ho y : Int) : ∀ (l : List Ent) (i : Nat) (pd : Int) (pv : ByteArray), (chkFrom ho y i pd pv l).1 ≠ 0 →
    ∃ j : Nat, j < l.length ∧ (chkFrom ho y i pd pv l).2 = ((i + j : Nat) : Int) ∧ chkFrom ho y i pd pv (l.take j) = (0, -1) ∧ chkFrom ho y i pd pv (l.take (j + 1)) = chkFrom ho y i pd pv l
  | [], _, _, _, h => absurd rfl h
  | e :: l, i, pd, pv, h => by
    by_cases hw : wrongE ho y i pd pv e = 0
    · have e1 : ∀ m, chkFrom ho y i pd pv (e :: m) = chkFrom ho y (i + 1) e.day e.dig m := fun m => by rw [chkFrom, if_pos hw]
      rw [e1] at h ⊢
      obtain ⟨j, h1, h2, h3, h4⟩ := chkFrom_bad ho y l (i + 1) e.day e.dig h
      exact ⟨j + 1, by simp; omega, by rw [h2]; omega, by rw [List.take_succ_cons, e1]; exact h3, by rw [List.take_succ_cons, e1]; exact h4⟩
    · have e1 : ∀ m, chkFrom ho y i pd pv (e :: m) = (wrongE ho y i pd pv e, (i : Int)) := fun m => by rw [chkFrom, if_neg hw]
      exact ⟨0, by simp, by rw [e1]; rfl, rfl, by rw [List.take_succ_cons, e1, e1]⟩
theorem good_take (ho y : Int) : ∀ (l : List Ent) (n i : Nat) (pd : Int) (pv : ByteArray), Good ho y i pd pv l → Good ho y i pd pv (l.take n)
  | _, 0, _, _, _, _ => by rw [List.take_zero]; trivial
  | [], _ + 1, _, _, _, _ => by rw [List.take_nil]; trivial
  | e :: l, n + 1, i, pd, pv, h => ⟨h.1, good_take ho y l n (i + 1) e.day e.dig h.2⟩
theorem good_days (ho y : Int) : ∀ (l : List Ent) (i : Nat) (pd : Int) (pv : ByteArray), Good ho y i pd pv l → ∀ (j : Nat) (a b : Ent), l[j]? = some a → l[j + 1]? = some b → a.day ≤ b.day
  | [], _, _, _, _, j, a, b, ha, _ => by simp at ha
  | [x], _, _, _, _, j, a, b, _, hb => by simp at hb
  | x :: z :: l, i, pd, pv, h, 0, a, b, ha, hb => by
    simp at ha hb; subst ha hb
    exact (wrongE_parts h.2.1).2.2.1
  | x :: z :: l, i, pd, pv, h, j + 1, a, b, ha, hb => good_days ho y (z :: l) (i + 1) x.day x.dig h.2 j a b (by simpa using ha) (by simpa using hb)
theorem EntsAt.take {w : World} {ao : Option Addr} {lb lo : Nat} {l : List Ent} (h : EntsAt w ao lb lo l) (n : Nat) : EntsAt w ao lb lo (l.take n) :=
  ⟨fun hl => h.ao (by rw [List.length_take] at hl; omega), fun i e he => h.at_ i e (by
    rw [List.getElem?_take] at he
    split at he
    · exact he
    · cases he)⟩
/-- The beginnings of a list, by the check. -/
theorem begin_bad {ho y : Int} {l : List Ent} (h : (chkE ho y l).1 ≠ 0) (h2 : 0 ≤ (chkE ho y l).2) :
    ∃ j : Nat, j < l.length ∧ (chkE ho y l).2 = (j : Int) ∧ chkE ho y (l.take j) = (0, -1) ∧ chkE ho y (l.take (j + 1)) = chkE ho y l := by
  simp only [chkE_eq] at *
  by_cases hg : ho < 0 ∨ 12 ≤ ho ∨ y < 1 ∨ 2147483647 ≤ y
  · rw [if_pos hg] at h2; exact absurd h2 (by decide)
  · simp only [if_neg hg] at *
    obtain ⟨j, h1, h2, h3, h4⟩ := chkFrom_bad ho y l 0 0 _ h
    exact ⟨j, h1, by rw [h2, Nat.zero_add], h3, h4⟩
theorem begin_arg {ho y : Int} {l : List Ent} (h : (chkE ho y l).1 ≠ 0) (h2 : (chkE ho y l).2 < 0) : chkE ho y l = (1, -1) := by
  simp only [chkE_eq] at *
  by_cases hg : ho < 0 ∨ 12 ≤ ho ∨ y < 1 ∨ 2147483647 ≤ y
  · rw [if_pos hg]
  · simp only [if_neg hg] at *
    obtain ⟨j, h1, h3, _⟩ := chkFrom_bad ho y l 0 0 _ h
    rw [h3] at h2; omega
theorem begin_good {ho y : Int} {l : List Ent} (h : (chkE ho y l).1 = 0) (n : Nat) : chkE ho y (l.take n) = (0, -1) :=
  chkE_of (chkE_good h).1 (good_take ho y l n _ _ _ (chkE_good h).2)
theorem begin_days {ho y : Int} {l : List Ent} (h : (chkE ho y l).1 = 0) {j : Nat} {a b : Ent} (ha : l[j]? = some a) (hb : l[j + 1]? = some b) : a.day ≤ b.day :=
  good_days ho y l 0 0 _ (chkE_good h).2 j a b ha hb
end Go.Proofs.YtpdbcahiipbhnaaDoor
