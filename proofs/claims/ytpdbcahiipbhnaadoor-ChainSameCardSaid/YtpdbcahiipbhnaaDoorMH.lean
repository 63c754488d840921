/- Layer 31: the reference's Check. -/
import Derived.Test.YtpdbcahiipbhnaaDoorMG
namespace Go.Proofs.YtpdbcahiipbhnaaDoor
open Go.RowKit

set_option maxHeartbeats 2000000 in
set_option maxRecDepth 100000 in
theorem RCheck_in (ho y : Int) (l : List Ent) (ao : Option Addr) (lb lo c : Nat) (w : World) (g1 : ¬ ho < 0) (g2 : ¬ 11 < ho) (g3 : ¬ y < 1) (g4 : ¬ 2147483646 < y) (nl : l.length ≤ 100) (hok : ∀ e ∈ l, e.Ok) (hat : EntsAt w ao lb lo l) (ht : Tabs w) :
    Calls Tryd.prog 39 #[.slice ao l.length c, .int .i64 ho, .int .i64 y] w fun e w' => e = .returned (.tuple #[.int .i64 (chkFrom ho y 0 0 ⟨#[]⟩ l).1, .int .i64 (chkFrom ho y 0 0 ⟨#[]⟩ l).2]) ∧ Below w.heap.size w w' := by
  have HL := Lib.hid hat
  have T0 := Lib.hid (Trk.start ht)
  have HOK := Lib.hid hok
  generalize hR : chkFrom ho y 0 0 ⟨#[]⟩ l = R at *
  have HR := Lib.hid hR
  clear hat ht hok hR
  go_enter Tryd.func39, Tryd.ntmps39
  go_wp2_with fail
  go_loopg [8] l.length (fun gk i wr => ∃ k, k + gk = l.length ∧ i = .int .i64 (k : Nat) ∧ R = chkFrom ho y k (pDay 0 l k) (pDig ⟨#[]⟩ l k) (l.drop k) ∧ Trk w wr)
  case atStart => exact ⟨0, by omega, rfl, by rw [← HR.out]; unfold pDay pDig; rfl, T0.out⟩
  case round =>
    obtain ⟨k, hk, rfl, hr, tr⟩ := hrel
    have T4 := Lib.hid tr
    have HR4 := Lib.hid hr
    clear tr hr
    by_cases hlt : k < l.length
    · obtain ⟨e, he⟩ : ∃ e, l[k]? = some e := ⟨_, List.getElem?_eq_getElem (by omega)⟩
      have hd : l.drop k = e :: l.drop (k + 1) := by
        rw [List.drop_eq_getElem_cons hlt]
        congr 1
        rw [List.getElem?_eq_getElem hlt] at he; exact Option.some.inj he
      have hw := RWrong_any l ao lb lo c k ho y e wr (HL.out.step T4.out.bel) T4.out.tabs nl he HOK.out
      have hr := HR4.out
      rw [hd, chkFrom] at hr
      have HE := Lib.hid he
      clear hd he
      generalize hx : wrongE ho y k (pDay 0 l k) (pDig ⟨#[]⟩ l k) e = x at *
      clear hx
      have i2 : (k : Int) < (l.length : Int) := by omega
      by_cases hx0 : x = 0
      · rw [if_pos hx0] at hr
        have HR5 := Lib.hid hr
        subst hx0
        clear hr
        go_wp2_with fail
        refine hw.mono ?_
        rintro v w2 ⟨rfl, hb⟩
        have T5 := Lib.hid (T4.out.step hb)
        clear hb hw
        go_wp2_with fail
        go_roundg (gk - 1)
        case measure => omega
        case rel => exact ⟨k + 1, by omega, by go_num, by rw [HR5.out, pDay_at l 0 k e HE.out, pDig_at l ⟨#[]⟩ k e HE.out], T5.out⟩
      · rw [if_neg hx0] at hr
        have HR5 := Lib.hid hr
        have e1 : (x == 0) = false := by simpa using hx0
        have e2 : (x != 0) = true := by simpa using hx0
        clear hr hx0
        go_wp2_with fail
        refine hw.mono ?_
        rintro v w2 ⟨rfl, hb⟩
        have T5 := Lib.hid (T4.out.step hb)
        clear hb hw
        go_wp2_with fail
        go_ret2
        exact ⟨by rw [HR5.out]; rfl, T5.out.bel⟩
    · obtain rfl : k = l.length := by omega
      have i2 : ¬ (l.length : Int) < (l.length : Int) := by omega
      have hr := HR4.out
      rw [List.drop_length, chkFrom] at hr
      have HR5 := Lib.hid hr
      clear hr
      go_wp2_with fail
      go_ret2
      exact ⟨by rw [HR5.out]; rfl, T4.out.bel⟩
set_option maxHeartbeats 1000000 in
set_option maxRecDepth 100000 in
theorem RCheck_arg (ho y : Int) (v : Value) (w : World) (b1 b2 b3 b4 : Bool) (h1 : decide (ho < 0) = b1) (h2 : decide (11 < ho) = b2) (h3 : decide (y < 1) = b3) (h4 : decide (2147483646 < y) = b4) (hb : (b1 || b2 || b3 || b4) = true) :
    Calls Tryd.prog 39 #[v, .int .i64 ho, .int .i64 y] w fun e w' => e = .returned (.tuple #[.int .i64 1, .int .i64 (-1)]) ∧ Below w.heap.size w w' := by
  have HB := Lib.hid (Below.refl w.heap.size w)
  cases b1 <;> cases b2 <;> cases b3 <;> cases b4
  all_goals first
    | (exfalso; revert hb; decide)
    | (clear hb
       go_enter Tryd.func39, Tryd.ntmps39
       go_wp2_with fail
       go_ret2
       exact ⟨rfl, HB.out⟩)
/-- The reference's Check, at every list of entries. -/
theorem RCheck_any (ho y : Int) (l : List Ent) (ao : Option Addr) (lb lo c : Nat) (w : World) (hl : l.length ≤ 100) (hok : ∀ e ∈ l, e.Ok) (hat : EntsAt w ao lb lo l) (ht : Tabs w) :
    Calls Tryd.prog 39 #[.slice ao l.length c, .int .i64 ho, .int .i64 y] w fun e w' => e = .returned (.tuple #[.int .i64 (chkE ho y l).1, .int .i64 (chkE ho y l).2]) ∧ Below w.heap.size w w' := by
  rw [chkE_eq]
  by_cases h : ho < 0 ∨ 12 ≤ ho ∨ y < 1 ∨ 2147483647 ≤ y
  · rw [if_pos h]
    refine RCheck_arg ho y _ w _ _ _ _ rfl rfl rfl rfl ?_
    simp only [Bool.or_eq_true, decide_eq_true_eq]
    omega
  · rw [if_neg h]
    exact RCheck_in ho y l ao lb lo c w (by omega) (by omega) (by omega) (by omega) hl hok hat ht
end Go.Proofs.YtpdbcahiipbhnaaDoor
