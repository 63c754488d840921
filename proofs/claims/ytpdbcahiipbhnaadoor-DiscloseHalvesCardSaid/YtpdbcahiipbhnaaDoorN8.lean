/- Layer 34: the reference's numerals, texts of nodes; lists of texts compared; lists that are small. -/
import Derived.Test.YtpdbcahiipbhnaaDoorN7
import Derived.Test.YtpdbcahiipbhnaaDoorMD
import Derived.Test.YtpdbcahiipbhnaaDoorR3
import Derived.BigQuiet
import Derived.Deep.QuietTactic
namespace Go.Proofs.YtpdbcahiipbhnaaDoor
open Go.RowKit

theorem u64w {n : Int} (h0 : 0 ≤ n) (h1 : n ≤ 18446744073709551615) : IntKind.u64.wrap n = n := by rw [IntKind.wrap_u64]; omega
set_option maxHeartbeats 400000 in
theorem RDig32_small (n : Nat) (w : World) (h : n < 10) :
    Calls Tryd.prog 90 #[.int .u64 n] w fun e w' => e = .returned (.string (decB n)) ∧ w = w' := by
  have hp := digit_dec n h
  have h1 : (n : Int) < 10 := by omega
  have h2 : (n : Int) + 1 ≤ 10 := by omega
  have h3 : IntKind.u64.wrap ((n : Int) + 1) = (n : Int) + 1 := u64w (by omega) (by omega)
  go_enter Tryd.func90, Tryd.ntmps90
  go_wp2_with fail
  go_ret
  exact ⟨rfl, rfl⟩

set_option maxHeartbeats 400000 in
theorem RDig32_step (n : Nat) (w : World) (h : ¬ n < 10) (hn : n < 9223372036854775809)
    (ih : ∀ (w : World) (k : Nat), Calls Tryd.prog 90 #[.int .u64 (n / 10 : Nat)] (w.drewN k) fun e w' => e = .returned (.string (decB (n / 10))) ∧ ∃ m, w' = w.drewN m) :
    Calls Tryd.prog 90 #[.int .u64 n] w fun e w' => e = .returned (.string (decB n)) ∧ ∃ m, w' = w.drewN m := by
  have hp := digit_dec (n % 10) (by omega)
  have hd := dec_step n h
  have h1 : ¬ (n : Int) < 10 := by omega
  have hq : (n : Int).tdiv 10 = ((n / 10 : Nat) : Int) := by rw [Int.tdiv_eq_ediv_of_nonneg (by omega)]; omega
  have hr : (n : Int).tmod 10 = ((n % 10 : Nat) : Int) := by rw [Int.tmod_eq_emod_of_nonneg (by omega)]; omega
  have hw : IntKind.u64.wrap ((n / 10 : Nat) : Int) = ((n / 10 : Nat) : Int) := u64w (by omega) (by omega)
  have hw2 : IntKind.u64.wrap ((n % 10 : Nat) : Int) = ((n % 10 : Nat) : Int) := u64w (by omega) (by omega)
  have hw3 : IntKind.u64.wrap (((n % 10 : Nat) : Int) + 1) = ((n % 10 : Nat) : Int) + 1 := u64w (by omega) (by omega)
  have hd10 : n % 10 < 10 := Nat.mod_lt _ (by omega)
  have IH := Lib.hid ih
  clear ih
  have s1 := decB_size' (n % 10) (by omega)
  have s2 := decB_size' (n / 10) (by omega)
  have s3 : (decB (n / 10)).size + (decB (n % 10)).size ≤ 9223372036854775807 := by omega
  have s4 : (decB (n / 10)).size + (decB (n % 10)).size ≤ maxLen := by unfold maxLen; omega
  have s5 : ((decB (n / 10)).size : Int) + ((decB (n % 10)).size : Int) ≤ 9223372036854775807 := by omega
  generalize n % 10 = d at *
  generalize n / 10 = q at *
  have b0 : (0 : Int) ≤ (d : Int) := by omega
  have b1 : (d : Int) + 1 ≤ 10 := by omega
  have b2 : (d : Int) ≤ (d : Int) + 1 := by omega
  have b3 : ((d : Int) + 1).toNat = d + 1 := by omega
  have b4 : (0 : Int) ≤ (d : Int) + 1 := by omega
  have b5 : (d : Int) ≤ 10 := by omega
  go_enter Tryd.func90, Tryd.ntmps90
  go_wp2_with fail
  go_quiet (first | (go_at_call 90; exact IH.out _ _))
  go_wp2_with fail
  go_ret
  exact ⟨rfl, _, rfl⟩
theorem RDig32_any (n : Nat) : n < 9223372036854775809 → ∀ w,
    Calls Tryd.prog 90 #[.int .u64 n] w fun e w' => e = .returned (.string (decB n)) ∧ ∃ m, w' = w.drewN m := by
  induction n using Nat.strongRecOn with
  | ind n ih =>
    intro hn w
    by_cases h0 : n < 10
    · exact (RDig32_small n w h0).mono fun _ _ ⟨a, b⟩ => ⟨a, 0, by rw [← b]; rfl⟩
    · exact RDig32_step n w h0 hn (fun w m => Calls.quiet_of (ih (n / 10) (by omega) (by omega) _))

set_option maxHeartbeats 1000000 in
theorem RDec32_pos (n : Nat) (w : World) (hn : n ≤ 9223372036854775807) :
    Calls Tryd.prog 64 #[.int .i64 n] w fun e w' => e = .returned (.string (numB n)) ∧ Below w.heap.size w w' := by
  have h1 : ¬ (n : Int) < 0 := by omega
  have HD := Lib.hid (RDig32_any n (by omega) w)
  have HE := Lib.hid (numB_pos (n := (n : Int)) (by omega))
  have h2 : IntKind.u64.wrap (n : Int) = (n : Int) := u64w (by omega) (by omega)
  go_enter Tryd.func64, Tryd.ntmps64
  go_wp2_with fail
  refine HD.out.mono ?_
  rintro e w1 ⟨rfl, m, rfl⟩
  go_wp2_with fail
  go_ret
  exact ⟨by rw [HE.out, show ((n : Int)).natAbs = n from Int.natAbs_natCast n]; rfl, drewN_below w m⟩
theorem tagR_eq (u a b : ByteArray) : u ++ ⟨#[32]⟩ ++ numB a.size ++ ⟨#[32]⟩ ++ a ++ b = tagT u a b := (tagT_eq u a b).symm
theorem nodeR_eq (a b : ByteArray) : ⟨#[110, 111, 100, 101, 32]⟩ ++ numB a.size ++ ⟨#[32]⟩ ++ a ++ b = tagT nodeW a b := by
  rw [tagT_eq]; apply ByteArray.ext; simp [ByteArray.data_append]
set_option maxHeartbeats 1000000 in
theorem NodeText_any (a b : ByteArray) (w : World) (ha : a.size ≤ 100000) (hb : b.size ≤ 100000) :
    Calls Tryd.prog 63 #[.string a, .string b] w fun e w' => e = .returned (.string (tagT nodeW a b)) ∧ Below w.heap.size w w' := by
  have hs := numB_size a.size ⟨by omega, by omega⟩
  have HD := Lib.hid (RDec32_pos a.size w (by omega))
  have HE := Lib.hid (nodeR_eq a b)
  generalize numB a.size = t at *
  generalize tagT nodeW a b = r at *
  have z1 : ¬ 9223372036854775807 < 5 + t.size := by omega
  have z2 : ¬ 9223372036854775807 < 5 + t.size + 1 := by omega
  have z3 : ¬ 9223372036854775807 < 5 + t.size + 1 + a.size := by omega
  have z4 : ¬ 9223372036854775807 < 5 + t.size + 1 + a.size + b.size := by omega
  clear hs ha hb
  go_enter Tryd.func63, Tryd.ntmps63
  go_wp2_with fail
  refine HD.out.mono ?_
  rintro e w1 ⟨rfl, hb⟩
  have HB := Lib.hid hb
  clear hb
  go_wp2_with fail
  go_ret
  exact ⟨by rw [← HE.out]; rfl, HB.out⟩
set_option maxHeartbeats 1000000 in
/-- The law's node. -/
theorem node34_any (a b : ByteArray) (w : World) (ha : a.size ≤ 100000) (hb : b.size ≤ 100000) (ht : Tabs w) :
    Calls Tryd.prog 34 #[.string a, .string b] w fun e w' => e = .returned (.string (nodB a b)) ∧ Below w.heap.size w w' := by
  have hz := tagT_size nodeW a b (by omega)
  have hw : nodeW.size = 4 := rfl
  have HN := Lib.hid (NodeText_any a b w ha hb)
  have HS := Lib.hid (fun w ht => Sum_is (tagT nodeW a b) (tagB nodeW a b) w (by omega) (tagB_eq nodeW a b).symm ht)
  have T0 := Lib.hid (Trk.start ht)
  show Calls _ _ _ _ fun e w' => e = .returned (.string (tagB nodeW a b)) ∧ _
  generalize tagB nodeW a b = r at *
  generalize tagT nodeW a b = t at *
  clear hz ha hb ht hw
  go_enter Tryd.func34, Tryd.ntmps34
  go_wp2_with fail
  refine HN.out.mono ?_
  rintro e w1 ⟨rfl, hb⟩
  have T1 := Lib.hid (T0.out.step hb)
  clear hb
  go_wp2_with fail
  refine (HS.out _ T1.out.tabs).mono ?_
  rintro e w2 ⟨rfl, hb⟩
  have T2 := Lib.hid (T1.out.step hb)
  clear hb
  go_wp2_with fail
  go_ret
  exact ⟨rfl, T2.out.bel⟩
set_option maxHeartbeats 2000000 in
set_option maxRecDepth 100000 in
/-- Strings, at two lists that hold the same texts. -/
theorem Strings_yes (l : List ByteArray) (ao bo : Option Addr) (lb lo c mb mo d : Nat) (w : World) (nl : l.length ≤ 9223372036854775807) (hl : StrsAt w ao lb lo l) (hm : StrsAt w bo mb mo l) :
    Calls Tryd.prog 26 #[.slice ao l.length c, .slice bo l.length d] w fun e w' => e = .returned (.bool true) ∧ Below w.heap.size w w' := by
  have HL := Lib.hid hl
  have HM := Lib.hid hm
  clear hl hm
  go_enter Tryd.func26, Tryd.ntmps26
  go_wp2_with fail
  go_loopg [5] l.length (fun gk i wr => ∃ k, k + gk = l.length ∧ i = .int .i64 (k : Nat) ∧ Below w.heap.size w wr)
  case atStart => exact ⟨0, by omega, rfl, Below.refl _ _⟩
  case round =>
    obtain ⟨k, hk, rfl, br⟩ := hrel
    have B4 := Lib.hid br
    have L4 := Lib.hid (HL.out.step br)
    have M4 := Lib.hid (HM.out.step br)
    clear br
    by_cases hlt : k < l.length
    · obtain ⟨a, ha⟩ : ∃ a, l[k]? = some a := ⟨_, List.getElem?_eq_getElem (by omega)⟩
      obtain ⟨rfl, la⟩ := L4.out.ao (by omega)
      obtain ⟨rfl, lc⟩ := M4.out.ao (by omega)
      have a0 := L4.out.at_ k a ha
      have b0 := M4.out.at_ k a ha
      have i1 : (0 : Int) ≤ (k : Int) := by omega
      have i3 : k < l.length := by omega
      have i5 : (k : Int) < (l.length : Int) := by omega
      clear ha
      go_wp2_with fail
      go_quiet (fail)
      go_wp2_with fail
      go_roundg (gk - 1)
      case measure => omega
      case rel => exact ⟨k + 1, by omega, by go_num, B4.out.trans ((drewN_below wr nq).mono B4.out.size)⟩
    · have i5 : ¬ (k : Int) < (l.length : Int) := by omega
      go_wp2_with fail
      go_ret
      exact ⟨rfl, B4.out⟩
/-- Whether a list of texts is small. -/
@[irreducible] def smallB (l : List ByteArray) (n : Int) : Bool := decide ((l.length : Int) ≤ n ∧ ∀ s ∈ l, s.size ≤ 200)
theorem smallB_iff {l : List ByteArray} {n : Int} : smallB l n = true ↔ (l.length : Int) ≤ n ∧ ∀ s ∈ l, s.size ≤ 200 := by unfold smallB; simp
theorem smallB_no {l : List ByteArray} {n : Int} (h : ¬ ((l.length : Int) ≤ n ∧ ∀ s ∈ l, s.size ≤ 200)) : smallB l n = false := by rw [← Bool.not_eq_true]; exact fun x => h (smallB_iff.1 x)
set_option maxHeartbeats 1000000 in
theorem small_any (l : List ByteArray) (ao : Option Addr) (lb lo c : Nat) (n : Int) (w : World) (hl : l.length ≤ 9223372036854775807) (hat : StrsAt w ao lb lo l) :
    Calls Tryd.prog 19 #[.slice ao l.length c, .int .i64 n] w fun e w' => e = .returned (.bool (smallB l n)) ∧ w = w' := by
  have HAT := Lib.hid hat
  clear hat
  by_cases h0 : n < (l.length : Int)
  · rw [smallB_no (fun h => by have := h.1; omega)]
    go_enter Tryd.func19, Tryd.ntmps19
    go_wp2_with fail
    go_ret
    exact ⟨rfl, rfl⟩
  · have h0' : (l.length : Int) ≤ n := by omega
    go_enter Tryd.func19, Tryd.ntmps19
    go_wp2_with fail
    go_loopg [5] l.length (fun gk i wr => ∃ k, k + gk = l.length ∧ i = .int .i64 (k : Nat) ∧ (∀ j e, j < k → l[j]? = some e → e.size ≤ 200) ∧ w = wr)
    case atStart => exact ⟨0, by omega, rfl, fun j e hj _ => by omega, rfl⟩
    case round =>
      obtain ⟨k, hk, rfl, hall, rfl⟩ := hrel
      have HALL := Lib.hid hall
      clear hall
      by_cases hlt : k < l.length
      · obtain ⟨e, he⟩ : ∃ e, l[k]? = some e := ⟨_, List.getElem?_eq_getElem hlt⟩
        have ha := (HAT.out.ao (by omega)).1
        subst ha
        have c0 := HAT.out.at_ k e he
        have HE := Lib.hid he
        clear he
        by_cases q1 : e.size ≤ 200
        · have q1' : ¬ (200 : Int) < (e.size : Int) := by omega
          have q1'' : ¬ 200 < e.size := by omega
          have HQ := Lib.hid q1
          clear q1
          go_wp2_with fail
          go_roundg (gk - 1)
          case measure => omega
          case rel => exact ⟨k + 1, by omega, by go_num, fun j x hj hx => by
            by_cases hjk : j = k
            · subst hjk; rw [HE.out] at hx; cases hx; exact HQ.out
            · exact HALL.out j x (by omega) hx, rfl⟩
        · have q1' : (200 : Int) < (e.size : Int) := by omega
          have q1'' : 200 < e.size := by omega
          have HN := Lib.hid (smallB_no (l := l) (n := n) (fun h => q1 (h.2 e (List.mem_of_getElem? HE.out))))
          clear q1
          go_wp2_with fail
          go_ret
          exact ⟨by rw [HN.out]; rfl, rfl⟩
      · have HN := Lib.hid (smallB_iff (l := l) (n := n).2 ⟨h0', fun e he => by
          obtain ⟨j, hj⟩ := List.getElem?_of_mem he
          exact HALL.out j e (by have := (List.getElem?_eq_some_iff.1 hj).1; omega) hj⟩)
        go_wp2_with fail
        go_ret
        exact ⟨by rw [HN.out]; rfl, rfl⟩
end Go.Proofs.YtpdbcahiipbhnaaDoor
