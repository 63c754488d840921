/- Layer 31: texts of entries tell the entries apart: plain. -/
import Derived.Test.YtpdbcahiipbhnaaDoorMA
namespace Go.Proofs.YtpdbcahiipbhnaaDoor

theorem ofNat_dig (k : Nat) (h : k < 256) : (UInt8.ofNat k).toNat = k := by
  show k % 256 = k
  omega
theorem dec_digit (n : Nat) : ∀ c ∈ Lib.decDigits n, 48 ≤ c.toNat ∧ c.toNat ≤ 57 := by
  induction n using Nat.strongRecOn with
  | ind n ih =>
    intro c hc
    by_cases h0 : n < 10
    · rw [Lib.decDigits_one h0] at hc
      rw [List.mem_singleton.1 hc, ofNat_dig _ (by omega)]; omega
    · rw [Lib.decDigits, dif_neg h0, List.mem_append] at hc
      rcases hc with hc | hc
      · exact ih (n / 10) (by omega) c hc
      · rw [List.mem_singleton.1 hc, ofNat_dig _ (by omega)]; omega
theorem itoa_no32 (n : Int) : ∀ c ∈ Lib.itoa n, c ≠ 32 := by
  intro c hc h
  subst h
  unfold Lib.itoa at hc
  split at hc
  · rcases List.mem_cons.1 hc with h | h
    · exact absurd h (by decide)
    · have := (dec_digit _ _ h).1; revert this; decide
  · have := (dec_digit _ _ hc).1; revert this; decide
/-- The number that digits mean. -/
def digVal (l : List UInt8) : Nat := l.foldl (fun a c => a * 10 + (c.toNat - 48)) 0
theorem digVal_snoc (l : List UInt8) (c : UInt8) : digVal (l ++ [c]) = digVal l * 10 + (c.toNat - 48) := by simp [digVal]
theorem digVal_dec (n : Nat) : digVal (Lib.decDigits n) = n := by
  induction n using Nat.strongRecOn with
  | ind n ih =>
    by_cases h0 : n < 10
    · rw [Lib.decDigits_one h0]
      show 0 * 10 + ((UInt8.ofNat (48 + n)).toNat - 48) = n
      rw [ofNat_dig _ (by omega)]; omega
    · rw [Lib.decDigits, dif_neg h0, digVal_snoc, ih (n / 10) (by omega), ofNat_dig _ (by omega)]; omega
theorem dec_inj {a b : Nat} (h : Lib.decDigits a = Lib.decDigits b) : a = b := by
  have := congrArg digVal h
  rwa [digVal_dec, digVal_dec] at this
theorem itoa_inj {a b : Int} (h : Lib.itoa a = Lib.itoa b) : a = b := by
  unfold Lib.itoa at h
  have key : ∀ n m : Nat, 45 :: Lib.decDigits n ≠ Lib.decDigits m := fun n m e => by
    have := (dec_digit m 45 (by rw [← e]; simp)).1
    revert this; decide
  split at h
  · split at h
    · have := dec_inj (List.cons.inj h).2; omega
    · exact absurd h (key _ _)
  · split at h
    · exact absurd h.symm (key _ _)
    · have := dec_inj h; omega
theorem cut_at {A B X Y : List UInt8} (hA : ∀ c ∈ A, c ≠ 32) (hB : ∀ c ∈ B, c ≠ 32) (h : A ++ 32 :: X = B ++ 32 :: Y) : A = B ∧ X = Y := by
  induction A generalizing B with
  | nil =>
    cases B with
    | nil => exact ⟨rfl, (List.cons.inj h).2⟩
    | cons b B => exact absurd (List.cons.inj h).1.symm (hB b List.mem_cons_self)
  | cons a A ih =>
    cases B with
    | nil => exact absurd (List.cons.inj h).1 (hA a List.mem_cons_self)
    | cons b B =>
      obtain ⟨h1, h2⟩ := List.cons.inj h
      obtain ⟨h3, h4⟩ := ih (fun c hc => hA c (List.mem_cons_of_mem _ hc)) (fun c hc => hB c (List.mem_cons_of_mem _ hc)) h2
      exact ⟨by rw [h1, h3], h4⟩
theorem ba_ext {a b : ByteArray} (h : a.data.toList = b.data.toList) : a = b := ByteArray.ext (Array.toList_inj.1 h)
theorem ba_size (a : ByteArray) : a.size = a.data.toList.length := by show a.data.size = _; simp
theorem txtE_list (h q d : Int) (p b : ByteArray) : (txtE h q d p b).data.toList = [101, 110, 116, 114, 121, 32] ++ (Lib.itoa h ++ 32 :: (Lib.itoa q ++ 32 :: (Lib.itoa d ++ 32 :: (Lib.itoa p.size ++ 32 :: (p.data.toList ++ b.data.toList))))) := by
  rw [txtE_eq, wordsB_eq]
  simp [wordsL, ByteArray.data_append]
theorem txtE_inj {h q d h' q' d' : Int} {p b p' b' : ByteArray} (e : txtE h q d p b = txtE h' q' d' p' b') : h = h' ∧ q = q' ∧ d = d' ∧ p = p' ∧ b = b' := by
  have e2 := congrArg (fun x => x.data.toList) e
  simp only [txtE_list] at e2
  have e3 := List.append_cancel_left e2
  obtain ⟨x1, e4⟩ := cut_at (itoa_no32 _) (itoa_no32 _) e3
  obtain ⟨x2, e5⟩ := cut_at (itoa_no32 _) (itoa_no32 _) e4
  obtain ⟨x3, e6⟩ := cut_at (itoa_no32 _) (itoa_no32 _) e5
  obtain ⟨x4, e7⟩ := cut_at (itoa_no32 _) (itoa_no32 _) e6
  have hs : p.data.toList.length = p'.data.toList.length := by
    have := itoa_inj x4
    rw [ba_size, ba_size] at this; omega
  obtain ⟨y1, y2⟩ := List.append_inj e7 hs
  exact ⟨itoa_inj x1, itoa_inj x2, itoa_inj x3, ba_ext y1, ba_ext y2⟩
theorem texts_law (a b : Ent) : ((txtE a.house a.seq a.day a.prev a.body).toList == (txtE b.house b.seq b.day b.prev b.body).toList) = eqE { a with r := 0, s := 0 } { b with r := 0, s := 0 } := by
  by_cases h : txtE a.house a.seq a.day a.prev a.body = txtE b.house b.seq b.day b.prev b.body
  · obtain ⟨x1, x2, x3, x4, x5⟩ := txtE_inj h
    rw [h, show ({ a with r := 0, s := 0 } : Ent) = { b with r := 0, s := 0 } from ent_ext.2 ⟨x1, x2, x3, x4, x5, rfl, rfl⟩, eqE_self]
    simp
  · rw [str_ne h, eqE_no]
    intro e
    obtain ⟨x1, x2, x3, x4, x5, _, _⟩ := ent_ext.1 e
    exact h (by rw [show a.house = b.house from x1, show a.seq = b.seq from x2, show a.day = b.day from x3, show a.prev = b.prev from x4, show a.body = b.body from x5])
end Go.Proofs.YtpdbcahiipbhnaaDoor
