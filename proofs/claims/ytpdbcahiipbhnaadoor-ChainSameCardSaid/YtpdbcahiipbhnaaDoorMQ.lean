/- Layer 31: what a chain is, plainly. -/
import Derived.Test.YtpdbcahiipbhnaaDoorMA
import Derived.Test.YtpdbcahiipbhnaaDoorMI
namespace Go.Proofs.YtpdbcahiipbhnaaDoor

theorem wrongE_parts {ho y : Int} {i : Nat} {pd : Int} {pv : ByteArray} {e : Ent} (h : wrongE ho y i pd pv e = 0) : e.body.size ≤ 2000 ∧ (e.house = ho ∧ e.seq = i ∧ 0 ≤ e.day ∧ e.day ≤ 2000) ∧ pd ≤ e.day ∧ e.prev = pv ∧ e.sgd y = true := by
  unfold wrongE at h
  split at h
  · cases h
  split at h
  · cases h
  split at h
  · cases h
  split at h
  · cases h
  · rename_i h1 h2 h3 h4
    exact ⟨Classical.not_not.1 h1, Classical.not_not.1 h2, Classical.not_not.1 h3, (Classical.not_not.1 h4).1, (Classical.not_not.1 h4).2⟩
/-- Nothing is wrong with any entry. -/
def Good (ho y : Int) : Nat → Int → ByteArray → List Ent → Prop
  | _, _, _, [] => True
  | i, pd, pv, e :: l => wrongE ho y i pd pv e = 0 ∧ Good ho y (i + 1) e.day e.dig l
theorem chkFrom_good (ho y : Int) : ∀ (l : List Ent) (i : Nat) (pd : Int) (pv : ByteArray), (chkFrom ho y i pd pv l).1 = 0 ↔ Good ho y i pd pv l
  | [], _, _, _ => ⟨fun _ => trivial, fun _ => rfl⟩
  | e :: l, i, pd, pv => by
    unfold chkFrom Good
    by_cases h : wrongE ho y i pd pv e = 0
    · rw [if_pos h, chkFrom_good ho y l]; exact ⟨fun x => ⟨h, x⟩, fun x => x.2⟩
    · rw [if_neg h]; exact ⟨fun x => absurd x h, fun x => absurd x.1 h⟩
theorem good_snd (ho y : Int) : ∀ (l : List Ent) (i : Nat) (pd : Int) (pv : ByteArray), Good ho y i pd pv l → chkFrom ho y i pd pv l = (0, -1)
  | [], _, _, _, _ => rfl
  | e :: l, i, pd, pv, h => by unfold chkFrom; rw [if_pos h.1]; exact good_snd ho y l _ _ _ h.2
/-- The day and the digest ahead of an entry. -/
def pDay (pd : Int) : List Ent → Nat → Int
  | _, 0 => pd
  | [], _ + 1 => 0
  | e :: l, j + 1 => pDay e.day l j
def pDig (pv : ByteArray) : List Ent → Nat → ByteArray
  | _, 0 => pv
  | [], _ + 1 => ⟨#[]⟩
  | e :: l, j + 1 => pDig e.dig l j
theorem good_at (ho y : Int) : ∀ (l : List Ent) (i : Nat) (pd : Int) (pv : ByteArray), Good ho y i pd pv l → ∀ j e, l[j]? = some e → wrongE ho y (i + j) (pDay pd l j) (pDig pv l j) e = 0
  | [], _, _, _, _, j, e, h => by simp at h
  | x :: l, i, pd, pv, hg, 0, e, h => by
    simp at h; subst h; exact hg.1
  | x :: l, i, pd, pv, hg, j + 1, e, h => by
    have := good_at ho y l (i + 1) x.day x.dig hg.2 j e (by simpa using h)
    rw [show i + (j + 1) = i + 1 + j by omega]; exact this
/-- A chain: nothing is wrong. -/
theorem chkE_good {ho y : Int} {l : List Ent} (h : (chkE ho y l).1 = 0) : (0 ≤ ho ∧ ho < 12 ∧ 1 ≤ y ∧ y < 2147483647) ∧ Good ho y 0 0 ⟨#[]⟩ l := by
  have h2 := chk_house h
  rw [chkE_eq, if_neg (by omega)] at h
  exact ⟨h2, (chkFrom_good ho y l 0 0 _).1 h⟩
theorem chkE_of {ho y : Int} {l : List Ent} (h : 0 ≤ ho ∧ ho < 12 ∧ 1 ≤ y ∧ y < 2147483647) (hg : Good ho y 0 0 ⟨#[]⟩ l) : chkE ho y l = (0, -1) := by
  rw [chkE_eq, if_neg (by omega)]; exact good_snd _ _ _ _ _ _ hg
theorem chain_at {ho y : Int} {l : List Ent} (h : (chkE ho y l).1 = 0) {j : Nat} {e : Ent} (he : l[j]? = some e) : e.house = ho ∧ e.seq = j ∧ e.sgd y = true := by
  have := wrongE_parts (good_at ho y l 0 0 _ (chkE_good h).2 j e he)
  rw [Nat.zero_add] at this
  exact ⟨this.2.1.1, this.2.1.2.1, this.2.2.2.2⟩
theorem few_ok {l : List Ent} {n : Int} (h : fewE l n = true) (hI : ∀ e ∈ l, e.I) : ∀ e ∈ l, e.Ok := fun e he => by
  have := (fewE_iff.1 h).2 e he
  exact (hI e he).ok this.1 this.2
theorem few_len {l : List Ent} {n : Int} (h : fewE l n = true) : (l.length : Int) ≤ n := (fewE_iff.1 h).1
theorem forks_law {ho y : Int} {l m : List Ent} (hl : (chkE ho y l).1 = 0) (hm : (chkE ho y m).1 = 0) {j : Nat} {a b : Ent} (ha : l[j]? = some a) (hb : m[j]? = some b) (h : eqE a b = false) : frkE y a b = true ∧ frkE y b a = true := by
  obtain ⟨a1, a2, a3⟩ := chain_at hl ha
  obtain ⟨b1, b2, b3⟩ := chain_at hm hb
  have h2 : eqE b a = false := eqE_no fun e => by rw [e, eqE_self] at h; cases h
  rw [frkE_eq, frkE_eq, h, h2, a3, b3, decide_eq_true (by rw [a1, b1] : a.house = b.house), decide_eq_true (by rw [a2, b2] : a.seq = b.seq), decide_eq_true (by rw [a1, b1] : b.house = a.house), decide_eq_true (by rw [a2, b2] : b.seq = a.seq)]
  exact ⟨rfl, rfl⟩
end Go.Proofs.YtpdbcahiipbhnaaDoor
