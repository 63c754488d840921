/- Layer 31: the laws' head. -/
import Derived.Test.YtpdbcahiipbhnaaDoorM8
import Derived.Outline
namespace Go.Proofs.YtpdbcahiipbhnaaDoor
open Go.RowKit

theorem App0 (l : List Ent) (ao : Option Addr) (lb lo c : Nat) (ho x day : Int) (body : ByteArray) (w : World) (hl : l.length ≤ 99) (hok : ∀ e ∈ l, e.Ok) (hat : EntsAt w ao lb lo l) (ht : Tabs w) (hbs : body.size ≤ 40000) (hx : I64 x) (h0 : appC ho x day body l = 0) :
    Calls Tryd.prog 40 #[.slice ao l.length c, .int .i64 ho, .int .i64 x, .int .i64 day, .string body] w
      fun e w' => ∃ ao c lb lo, e = .returned (.tuple #[.slice ao (l ++ [newEnt ho x.toNat day body l.length (lastDig l)]).length c, .int .i64 0]) ∧ EntsAt w' ao lb lo (l ++ [newEnt ho x.toNat day body l.length (lastDig l)]) ∧ Below w.heap.size w w' :=
  (Append_any l ao lb lo c ho x day body w hl hok hat ht hbs hx).mono fun e w' h => by
    rcases h with ⟨h, _⟩ | ⟨_, h⟩
    · exact absurd h0 h
    · obtain ⟨a1, a2, a3, a4, a5, a6, a7, _⟩ := h
      exact ⟨a1, a2, a3, a4, a5, a6, a7⟩
theorem App1 (l : List Ent) (ao : Option Addr) (lb lo c : Nat) (ho x day : Int) (body : ByteArray) (w : World) (hl : l.length ≤ 99) (hok : ∀ e ∈ l, e.Ok) (hat : EntsAt w ao lb lo l) (ht : Tabs w) (hbs : body.size ≤ 40000) (hx : I64 x) (k : Int) (hk : k ≠ 0) (h0 : appC ho x day body l = k) :
    Calls Tryd.prog 40 #[.slice ao l.length c, .int .i64 ho, .int .i64 x, .int .i64 day, .string body] w
      fun e w' => e = .returned (.tuple #[.slice none 0 0, .int .i64 k]) ∧ Below w.heap.size w w' :=
  (Append_any l ao lb lo c ho x day body w hl hok hat ht hbs hx).mono fun e w' h => by
    rw [h0] at h
    rcases h with ⟨_, h⟩ | ⟨h, _⟩
    · exact h
    · exact absurd h hk
/-- The entries of the head. -/
def hE1 : Ent := newEnt 0 5 3 ⟨#[97]⟩ 0 ⟨#[]⟩
def hE2 : Ent := newEnt 0 5 4 ⟨#[98]⟩ 1 hE1.dig
def hE3 : Ent := newEnt 0 5 4 ⟨#[99]⟩ 1 hE1.dig
def hEx : Ent := { hE1 with body := ⟨#[99]⟩ }
theorem small_I64 (n : Nat) (h : n < 2147483647) : I64 (n : Int) := ⟨by omega, by omega⟩
theorem new_ok (ho : Int) (x : Nat) (day : Int) (body : ByteArray) (q : Int) (pv : ByteArray) (h1 : I64 ho) (h2 : I64 day) (h3 : I64 q) (h4 : body.size ≤ 40000) (h5 : pv.size ≤ 40000) : (newEnt ho x day body q pv).Ok :=
  ⟨h1, h3, h2, small_I64 _ (pw_lt _ _), small_I64 _ (by unfold sgS; omega), h5, h4⟩
theorem ok1 : hE1.Ok := new_ok _ _ _ _ _ _ ⟨by decide, by decide⟩ ⟨by decide, by decide⟩ ⟨by decide, by decide⟩ (by decide) (by decide)
theorem ok2 : hE2.Ok := new_ok _ _ _ _ _ _ ⟨by decide, by decide⟩ ⟨by decide, by decide⟩ ⟨by decide, by decide⟩ (by decide) (by rw [digE_size]; decide)
theorem ok3 : hE3.Ok := new_ok _ _ _ _ _ _ ⟨by decide, by decide⟩ ⟨by decide, by decide⟩ ⟨by decide, by decide⟩ (by decide) (by rw [digE_size]; decide)
theorem okx : hEx.Ok := ⟨ok1.house, ok1.seq, ok1.day, ok1.r, ok1.s, ok1.prev, by decide⟩
theorem sg_new (ho : Int) (day : Int) (body : ByteArray) (q : Int) (pv : ByteArray) : (newEnt ho 5 day body q pv).sgd 16807 = true := by
  have h := new_sgd ho 5 day body q pv
  rw [pw7_five] at h; exact h
theorem wrongE_zero {ho y : Int} {i : Nat} {pd : Int} {pv : ByteArray} {e : Ent} (a : e.body.size ≤ 2000) (b : e.house = ho ∧ e.seq = i ∧ 0 ≤ e.day ∧ e.day ≤ 2000) (c : pd ≤ e.day) (d : e.prev = pv ∧ e.sgd y = true) : wrongE ho y i pd pv e = 0 := by
  unfold wrongE; rw [if_neg (not_not_intro a), if_neg (not_not_intro b), if_neg (not_not_intro c), if_neg (not_not_intro d)]
theorem wrongE_forged {ho y : Int} {i : Nat} {pd : Int} {pv : ByteArray} {e : Ent} (a : e.body.size ≤ 2000) (b : e.house = ho ∧ e.seq = i ∧ 0 ≤ e.day ∧ e.day ≤ 2000) (c : pd ≤ e.day) (d : ¬ (e.prev = pv ∧ e.sgd y = true)) : wrongE ho y i pd pv e = 17 := by
  unfold wrongE; rw [if_neg (not_not_intro a), if_neg (not_not_intro b), if_neg (not_not_intro c), if_pos d]
theorem wr_new (i : Nat) (pd : Int) (pv : ByteArray) (day : Int) (body : ByteArray) (hb : body.size ≤ 2000) (h1 : 0 ≤ day) (h2 : day ≤ 2000) (h3 : pd ≤ day) : wrongE 0 16807 i pd pv (newEnt 0 5 day body i pv) = 0 :=
  wrongE_zero hb ⟨rfl, rfl, h1, h2⟩ h3 ⟨rfl, sg_new _ _ _ _ _⟩
theorem hin : ¬ ((0 : Int) < 0 ∨ 12 ≤ (0 : Int) ∨ (16807 : Int) < 1 ∨ 2147483647 ≤ (16807 : Int)) := by omega
theorem w1 : wrongE 0 16807 0 0 ⟨#[]⟩ hE1 = 0 := wr_new 0 0 ⟨#[]⟩ 3 ⟨#[97]⟩ (by decide) (by decide) (by decide) (by decide)
theorem w2 : wrongE 0 16807 1 hE1.day hE1.dig hE2 = 0 := wr_new 1 3 hE1.dig 4 ⟨#[98]⟩ (by decide) (by decide) (by decide) (by decide)
theorem chk1 : chkE 0 16807 [hE1] = (0, -1) := by
  rw [chkE_eq, if_neg hin]; simp only [chkFrom]; rw [if_pos w1]
theorem chk2 : chkE 0 16807 [hE1, hE2] = (0, -1) := by
  rw [chkE_eq, if_neg hin]; simp only [chkFrom]; rw [if_pos w1, if_pos w2]
theorem wx : wrongE 0 16807 0 0 ⟨#[]⟩ hEx = 17 :=
  wrongE_forged (by decide) ⟨rfl, rfl, by decide, by decide⟩ (by decide) (fun h => by
    have h2 := h.2
    unfold Ent.sgd at h2
    rw [show sgdE 16807 hEx.house hEx.seq hEx.day hEx.prev hEx.body hEx.r hEx.s = false from forged] at h2
    cases h2)
theorem chkx : chkE 0 16807 [hEx, hE2] = (17, 0) := by
  rw [chkE_eq, if_neg hin]; simp only [chkFrom]; rw [if_neg (by rw [wx]; decide), wx]; rfl
theorem xin : ¬ ((5 : Int) < 1 ∨ 2147483646 ≤ (5 : Int)) := by omega
theorem chk0 : chkE 0 16807 [] = (0, -1) := by rw [chkE_eq, if_neg hin]; rfl
theorem app_of (l : List Ent) (day : Int) (body : ByteArray) (h : chkE 0 16807 l = (0, -1)) (hb : body.size ≤ 2000) (h1 : 0 ≤ day) (h2 : day ≤ 2000) : appC 0 5 day body l = if day < lastDay l then 15 else 0 := by
  rw [appC_eq, if_neg xin, show ((pw 7 (Int.toNat 5) : Nat) : Int) = 16807 from congrArg Int.ofNat pw7_five, h, if_neg (by decide), if_neg (not_not_intro hb), if_neg (by omega)]
theorem ap1 : appC 0 5 3 ⟨#[97]⟩ [] = 0 := by rw [app_of _ _ _ chk0 (by decide) (by decide) (by decide), lastDay_nil]; rfl
theorem ap2 : appC 0 5 4 ⟨#[98]⟩ [hE1] = 0 := by rw [app_of _ _ _ chk1 (by decide) (by decide) (by decide), show lastDay [hE1] = 3 from rfl]; rfl
theorem ap3 : appC 0 5 2 ⟨#[100]⟩ [hE1, hE2] = 15 := by rw [app_of _ _ _ chk2 (by decide) (by decide) (by decide), show lastDay [hE1, hE2] = 4 from rfl]; rfl
theorem ap4 : appC 0 5 4 ⟨#[99]⟩ [hE1] = 0 := by rw [app_of _ _ _ chk1 (by decide) (by decide) (by decide), show lastDay [hE1] = 3 from rfl]; rfl
theorem frk23 : frkE 16807 hE2 hE3 = true := by
  rw [frkE_eq, eqE_no (fun h => by have := congrArg Ent.body h; revert this; decide), show hE2.sgd 16807 = true from sg_new _ _ _ _ _, show hE3.sgd 16807 = true from sg_new _ _ _ _ _]
  rfl
theorem frk11 : frkE 16807 hE1 hE1 = false := by rw [frkE_eq, eqE_self]; rfl
end Go.Proofs.YtpdbcahiipbhnaaDoor
