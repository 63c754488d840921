/- Layer 34: half, tagged, Body, Leaf. -/
import Derived.Test.YtpdbcahiipbhnaaDoorN0
import Derived.Test.YtpdbcahiipbhnaaDoorM3
import Derived.LoopN
import Derived.Deep.LoopGhost
import Derived.WalkMore
namespace Go.Proofs.YtpdbcahiipbhnaaDoor
open Go.RowKit

set_option maxHeartbeats 1000000 in
theorem half_any (n : Nat) (w : World) (hn : n ≤ 1000000) :
    Calls Tryd.prog 58 #[.int .i64 n] w fun e w' => e = .returned (.int .i64 (halfN n : Nat)) ∧ w = w' := by
  go_enter Tryd.func58, Tryd.ntmps58
  go_wp2_with fail
  go_loopg [3] (n + 1) (fun gk i wr => ∃ j, gk + 2 ^ j = n + 2 ∧ i = .int .i64 ((2 ^ j : Nat) : Int) ∧ (j = 0 ∨ 2 ^ j < n) ∧ w = wr)
  case atStart => exact ⟨0, by omega, rfl, .inl rfl, rfl⟩
  case round =>
    obtain ⟨j, hg, rfl, hj, rfl⟩ := hrel
    have hp := Nat.pow_succ 2 j
    have HJ := Lib.hid hj
    have h1 : 1 ≤ 2 ^ j := Nat.one_le_two_pow
    generalize hK : 2 ^ j = K at *
    have HK := Lib.hid hK
    have HP := Lib.hid hp
    have k1 : K ≤ 1000002 := by omega
    have k2 : IntKind.i64.wrap ((K : Int) * 2) = (K : Int) * 2 := wrap_i64_in (by omega) (by omega)
    clear hj hK hp
    by_cases hlt : K * 2 < n
    · have hlt' : (K : Int) * 2 < (n : Int) := by omega
      go_wp2_with fail
      go_roundg (gk - K)
      case measure => omega
      case rel => exact ⟨j + 1, by rw [HP.out]; omega, by rw [HP.out]; go_num, .inr (by rw [HP.out]; omega), rfl⟩
    · have hlt' : ¬ (K : Int) * 2 < (n : Int) := by omega
      have HH := Lib.hid (halfN_is (n := n) (j := j) (by rw [HK.out]; exact HJ.out) (by rw [HK.out]; omega))
      go_wp2_with fail
      go_ret
      exact ⟨by rw [← HH.out, HK.out]; rfl, rfl⟩
theorem tagged_any (u a b : ByteArray) (w : World) (hu : u.size ≤ 100) (ha : a.size ≤ 100000) (hb : b.size ≤ 100000) (ht : Tabs w) :
    Calls Tryd.prog 54 #[.string u, .string a, .string b] w fun e w' => e = .returned (.string (tagB u a b)) ∧ Below w.heap.size w w' := by
  have hz := tagT_size u a b (by omega)
  have hs := numB_size a.size ⟨by omega, by omega⟩
  have HI := Lib.hid (fun w ht => Itoa_int a.size w ⟨by omega, by omega⟩ ht)
  have hS := fun w ht => Sum_is (tagT u a b) (tagB u a b) w (by omega) (tagB_eq u a b).symm ht
  rw [tagT_eq] at hS
  have HS := Lib.hid hS
  have T0 := Lib.hid (Trk.start ht)
  clear ht hS hz
  generalize numB a.size = t at *
  generalize tagB u a b = r at *
  have z1 : ¬ 9223372036854775807 < u.size + 1 := by omega
  have z2 : ¬ 9223372036854775807 < u.size + 1 + t.size := by omega
  have z3 : ¬ 9223372036854775807 < u.size + 1 + t.size + 1 := by omega
  have z4 : ¬ 9223372036854775807 < u.size + 1 + t.size + 1 + a.size := by omega
  have z5 : ¬ 9223372036854775807 < u.size + 1 + t.size + 1 + a.size + b.size := by omega
  clear hu ha hb hs
  go_enter Tryd.func54, Tryd.ntmps54
  go_wp2_with fail
  refine (HI.out _ T0.out.tabs).mono ?_
  rintro e w1 ⟨rfl, hb⟩
  have T1 := Lib.hid (T0.out.step hb)
  clear hb
  go_wp2_with fail
  refine (HS.out _ T1.out.tabs).mono ?_
  rintro e w2 ⟨rfl, hb⟩
  have T2 := Lib.hid (T1.out.step hb)
  clear hb
  go_wp2_with fail
  go_ret
  exact ⟨rfl, T2.out.bel⟩

/-- A fact. -/
structure Fct where
  ref : Int
  act : Int
  low : Int
  high : Int
  filed : Int
  secret : Bool
structure Fct.I (x : Fct) : Prop where
  ref : I64 x.ref
  act : I64 x.act
  low : I64 x.low
  high : I64 x.high
  filed : I64 x.filed
abbrev Fct.vals (x : Fct) : Array Value := #[.int .i64 x.ref, .int .i64 x.act, .int .i64 x.low, .int .i64 x.high, .int .i64 x.filed, .bool x.secret]
abbrev factW : ByteArray := ⟨#[102, 97, 99, 116]⟩
/-- The text of a fact. -/
@[irreducible] def bodyT (x : Fct) : ByteArray := wordsB factW [x.ref, x.act, x.low, x.high, x.filed] ++ (if x.secret then ⟨#[32, 49]⟩ else ⟨#[32, 48]⟩)
theorem bodyT_eq (x : Fct) : bodyT x = wordsB factW [x.ref, x.act, x.low, x.high, x.filed] ++ (if x.secret then ⟨#[32, 49]⟩ else ⟨#[32, 48]⟩) := by unfold bodyT; rfl
theorem infoI : (Tryd.prog.info? 3).map (fun i => (i.zero, i.size, i.bytes)) = some (some (.int .i64 0), 1, 8) := by kernel_rfl
theorem Itoa_txt (n : Int) (w : World) (hn : I64 n) (ht : Tabs w) : Calls Tryd.prog 87 #[.int .i64 n] w fun e w' => ∃ u, e = .returned (.string u) ∧ u = numB n ∧ u.size ≤ 20 ∧ Below w.heap.size w w' :=
  (Itoa_int n w hn ht).mono fun _ _ h => ⟨numB n, h.1, rfl, numB_size n hn, h.2⟩
theorem wordsB_snoc (f : ByteArray) (l : List Int) (n : Int) : wordsB f (l ++ [n]) = wordsB f l ++ (⟨#[32]⟩ ++ numB n) := by
  rw [wordsB_eq, wordsB_eq, wordsL_snoc, numB_eq]
  apply ByteArray.ext
  simp [ByteArray.data_append]
theorem wordsB_nil (f : ByteArray) : wordsB f [] = f := by
  rw [wordsB_eq]; apply ByteArray.ext; simp [wordsL]
theorem bodyT_size (x : Fct) (hx : x.I) : (bodyT x).size ≤ 200 := by
  have h1 := wordsB_size factW [x.ref, x.act, x.low, x.high, x.filed] (fun n hn => by
    simp only [List.mem_cons, List.not_mem_nil, or_false] at hn
    rcases hn with rfl | rfl | rfl | rfl | rfl
    · exact hx.ref
    · exact hx.act
    · exact hx.low
    · exact hx.high
    · exact hx.filed)
  have h2 : factW.size = 4 := rfl
  simp only [List.length_cons, List.length_nil] at h1
  rw [bodyT_eq, ByteArray.size_append]
  have h3 : (if x.secret then (⟨#[32, 49]⟩ : ByteArray) else ⟨#[32, 48]⟩).size = 2 := by split <;> rfl
  omega
set_option maxHeartbeats 2000000 in
set_option maxRecDepth 100000 in
theorem Body_any (x : Fct) (w : World) (hx : x.I) (ht : Tabs w) :
    Calls Tryd.prog 55 #[.agg x.vals] w fun e w' => e = .returned (.string (bodyT x)) ∧ Below w.heap.size w w' := by
  have hat : ∀ j n, [x.ref, x.act, x.low, x.high, x.filed][j]? = some n → I64 n := fun j n hn => by
    have := List.mem_of_getElem? hn
    simp only [List.mem_cons, List.not_mem_nil, or_false] at this
    rcases this with rfl | rfl | rfl | rfl | rfl
    · exact hx.ref
    · exact hx.act
    · exact hx.low
    · exact hx.high
    · exact hx.filed
  have HAT := Lib.hid hat
  have HB := Lib.hid (bodyT_eq x)
  generalize bodyT x = bt at *
  obtain ⟨a, b, c, d, e, s⟩ := x
  have T0 := Lib.hid ((Trk.start ht).alloc (.cells #[.int .i64 a, .int .i64 b, .int .i64 c, .int .i64 d, .int .i64 e, .bool s] 24))
  have hlt0 : w.heap.size < (w.alloc (.cells #[.int .i64 a, .int .i64 b, .int .i64 c, .int .i64 d, .int .i64 e, .bool s] 24)).heap.size := by simp
  have hs5 := Lib.hid (new0 (w := w) (c := #[.int .i64 a, .int .i64 b, .int .i64 c, .int .i64 d, .int .i64 e, .bool s]) (t := 24) (n := w.heap.size) (i := 5) (v := .bool s) rfl rfl)
  clear hat hx ht
  have HIT := Lib.hid (fun n w (hn : I64 n) (ht : Tabs w) => Itoa_txt n w hn ht)
  go_enter Tryd.func55, Tryd.ntmps55
  go_wp2_with fail
  generalize w.alloc (.cells #[.int .i64 a, .int .i64 b, .int .i64 c, .int .i64 d, .int .i64 e, .bool s] 24) = w0 at *
  obtain ⟨i0, hi0, _, hz1, _⟩ := info_parts infoI
  have HI := Lib.hid hi0
  have HZ1 := Lib.hid hz1
  have HIX : Hid (∀ (k : Nat) n, [a, b, c, d, e][k]? = some n → (#[.int .i64 a, .int .i64 b, .int .i64 c, .int .i64 d, .int .i64 e] : Array Value)[k]? = some (.int .i64 n)) := Lib.hid fun k n hn => by
    rw [show (#[.int .i64 a, .int .i64 b, .int .i64 c, .int .i64 d, .int .i64 e] : Array Value) = ([a, b, c, d, e].map (Value.int .i64)).toArray from rfl, List.getElem?_toArray, List.getElem?_map, hn]; rfl
  clear hi0 hz1
  go_loopg [3, 17] 5 (fun gk o i wr => ∃ (k : Nat) (t : ByteArray), k + gk = 5 ∧ i = .int .i64 (k : Nat) ∧ o = .string t ∧ t = wordsB factW ([a, b, c, d, e].take k) ∧ t.size ≤ 4 + 21 * k ∧ Below w0.heap.size w0 wr)
  case atStart => exact ⟨0, factW, by omega, rfl, rfl, by rw [List.take_zero, wordsB_nil], by decide, Below.refl _ _⟩
  case round =>
    obtain ⟨k, t, hk, rfl, rfl, htk, hts, br⟩ := hrel
    have B4 := Lib.hid br
    have T4 := Lib.hid (T0.out.step br)
    have HTK := Lib.hid htk
    clear br htk
    by_cases hlt : k < 5
    · obtain ⟨n, hn⟩ : ∃ n, [a, b, c, d, e][k]? = some n := ⟨_, List.getElem?_eq_getElem hlt⟩
      have hix := HIX.out k n hn
      have hlt' : (k : Int) < 5 := by omega
      have i1 : (0 : Int) ≤ (k : Int) := by omega
      have HN := Lib.hid hn
      have HNI := Lib.hid (HAT.out k n hn)
      clear hn
      go_wp2_with (with_reducible refine wpList_index_agg rfl 113 (.tmp 16) (.tmp 17) rfl 3 5 i0 .i64 Tryd.underlying113 Tryd.underlying3 HI.out HZ1.out _ rfl k rfl _ hlt hix ?_)
      refine (HIT.out n _ HNI.out T4.out.tabs).mono ?_
      rintro x w1 ⟨u, rfl, hu, hus, hb⟩
      have HU := Lib.hid hu
      have B5 := Lib.hid (B4.out.trans (hb.mono B4.out.size))
      have z1 : ¬ 9223372036854775807 < 1 + u.size := by omega
      have z2 : ¬ 9223372036854775807 < t.size + (1 + u.size) := by omega
      clear hb hu
      go_wp2_with fail
      go_roundg (gk - 1)
      case measure => omega
      case rel => exact ⟨k + 1, t ++ (⟨#[32]⟩ ++ u), by omega, by go_num, rfl, by rw [HU.out, HTK.out, List.take_add_one, HN.out]; exact (wordsB_snoc factW _ n).symm, by rw [ByteArray.size_append, ByteArray.size_append]; show t.size + (1 + u.size) ≤ _; omega, B5.out⟩
    · obtain rfl : k = 5 := by omega
      have hc := (B4.out.cell (p := ⟨w.heap.size, 5, none⟩) hlt0).trans hs5.out
      have z1 : ¬ 9223372036854775807 < t.size + 2 := by omega
      have HT : Hid (t = wordsB factW [a, b, c, d, e]) := Lib.hid HTK.out
      cases s
      all_goals
        go_wp2_with fail
        go_ret
        exact ⟨by rw [HB.out, HT.out]; rfl, T4.out.bel⟩
/-- The leaf of a fact with a salt. -/
abbrev leafB (x : Fct) (salt : ByteArray) : ByteArray := tagB leafW salt (bodyT x)
set_option maxHeartbeats 2000000 in
set_option maxRecDepth 100000 in
theorem Leaf_any (x : Fct) (salt : ByteArray) (w : World) (hx : x.I) (hs : salt.size ≤ 100000) (ht : Tabs w) :
    Calls Tryd.prog 22 #[.agg x.vals, .string salt] w fun e w' => e = .returned (.string (leafB x salt)) ∧ Below w.heap.size w w' := by
  have hz := bodyT_size x hx
  have HT := Lib.hid (fun w ht => tagged_any leafW salt (bodyT x) w (by decide) hs (by omega) ht)
  have HB := Lib.hid (fun w ht => Body_any x w hx ht)
  show Calls _ _ _ _ fun e w' => e = .returned (.string (tagB leafW salt (bodyT x))) ∧ _
  generalize tagB leafW salt (bodyT x) = r at *
  generalize bodyT x = bt at *
  clear hz hx hs
  obtain ⟨a, b, c, d, e, s⟩ := x
  have T0 := Lib.hid ((Trk.start ht).alloc (.cells #[.int .i64 a, .int .i64 b, .int .i64 c, .int .i64 d, .int .i64 e, .bool s] 24))
  clear ht
  go_enter Tryd.func22, Tryd.ntmps22
  go_wp2_with fail
  refine (HB.out _ T0.out.tabs).mono ?_
  rintro e w1 ⟨rfl, hb⟩
  have T1 := Lib.hid (T0.out.step hb)
  clear hb
  go_wp2_with fail
  refine (HT.out _ T1.out.tabs).mono ?_
  rintro e w2 ⟨rfl, hb⟩
  have T2 := Lib.hid (T1.out.step hb)
  clear hb
  go_wp2_with fail
  go_ret
  exact ⟨rfl, T2.out.bel⟩
end Go.Proofs.YtpdbcahiipbhnaaDoor
