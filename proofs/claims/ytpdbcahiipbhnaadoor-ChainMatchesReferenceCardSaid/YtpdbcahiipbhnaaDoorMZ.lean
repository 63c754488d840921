/- ChainAppends: the walk and the law. -/
import Derived.Test.YtpdbcahiipbhnaaDoorMJ
import Derived.Test.YtpdbcahiipbhnaaDoorMS
import Derived.Deep.QuietTactic
namespace Go.Proofs.YtpdbcahiipbhnaaDoor
open Go.RowKit

/-- Five cells of a block: a key. -/
abbrev AtK (w : World) (n : Nat) (kh ks kp kd : Int) (kb : ByteArray) : Prop := w.cell? ⟨n, 0, none⟩ = some (.int .i64 kh) ∧ w.cell? ⟨n, 1, none⟩ = some (.int .i64 ks) ∧ w.cell? ⟨n, 2, none⟩ = some (.int .i64 kp) ∧ w.cell? ⟨n, 3, none⟩ = some (.int .i64 kd) ∧ w.cell? ⟨n, 4, none⟩ = some (.string kb)
theorem AtK.keep {w w' : World} {n : Nat} {kh ks kp kd : Int} {kb : ByteArray} (l : n < w.heap.size) (hb : Below w.heap.size w w') (H : AtK w n kh ks kp kd kb) : AtK w' n kh ks kp kd kb :=
  ⟨(hb.cell (p := ⟨n, 0, none⟩) l).trans H.1, (hb.cell (p := ⟨n, 1, none⟩) l).trans H.2.1, (hb.cell (p := ⟨n, 2, none⟩) l).trans H.2.2.1, (hb.cell (p := ⟨n, 3, none⟩) l).trans H.2.2.2.1, (hb.cell (p := ⟨n, 4, none⟩) l).trans H.2.2.2.2⟩
theorem AtK.new (w : World) (kh ks kp kd : Int) (kb : ByteArray) (t : TypeId) : AtK (w.alloc (.cells #[.int .i64 kh, .int .i64 ks, .int .i64 kp, .int .i64 kd, .string kb] t)) w.heap.size kh ks kp kd kb := ⟨new0 rfl rfl, new0 rfl rfl, new0 rfl rfl, new0 rfl rfl, new0 rfl rfl⟩
theorem good_snoc (ho y : Int) (e : Ent) : ∀ (l : List Ent) (i : Nat) (pd : Int) (pv : ByteArray), Good ho y i pd pv l → wrongE ho y (i + l.length) (pDay pd (l ++ [e]) l.length) (pDig pv (l ++ [e]) l.length) e = 0 → Good ho y i pd pv (l ++ [e])
  | [], i, pd, pv, _, h => ⟨h, trivial⟩
  | x :: l, i, pd, pv, hg, h => ⟨hg.1, good_snoc ho y e l (i + 1) x.day x.dig hg.2 (by
      rw [show i + 1 + l.length = i + (x :: l).length by rw [List.length_cons]; omega]; exact h)⟩
theorem keep_ap {w0 w w' : World} {n0 n1 : Nat} {kh ks kp kd q R S : Int} {kb pv : ByteArray} (l0 : n0 < w0.heap.size) (l1 : n1 < w0.heap.size) (hb : Below w.heap.size w w') (H : w.cell? ⟨n0, 0, none⟩ = some (.int .i64 kh) ∧ w.cell? ⟨n0, 1, none⟩ = some (.int .i64 ks) ∧ w.cell? ⟨n0, 2, none⟩ = some (.int .i64 kp) ∧ w.cell? ⟨n0, 3, none⟩ = some (.int .i64 kd) ∧ w.cell? ⟨n0, 4, none⟩ = some (.string kb) ∧ w.cell? ⟨n1, 0, none⟩ = some (.int .i64 kh) ∧ w.cell? ⟨n1, 1, none⟩ = some (.int .i64 q) ∧ w.cell? ⟨n1, 2, none⟩ = some (.int .i64 kd) ∧ w.cell? ⟨n1, 3, none⟩ = some (.string pv) ∧ w.cell? ⟨n1, 4, none⟩ = some (.string kb) ∧ w.cell? ⟨n1, 5, none⟩ = some (.int .i64 R) ∧ w.cell? ⟨n1, 6, none⟩ = some (.int .i64 S) ∧ Trk w0 w) : w'.cell? ⟨n0, 0, none⟩ = some (.int .i64 kh) ∧ w'.cell? ⟨n0, 1, none⟩ = some (.int .i64 ks) ∧ w'.cell? ⟨n0, 2, none⟩ = some (.int .i64 kp) ∧ w'.cell? ⟨n0, 3, none⟩ = some (.int .i64 kd) ∧ w'.cell? ⟨n0, 4, none⟩ = some (.string kb) ∧ w'.cell? ⟨n1, 0, none⟩ = some (.int .i64 kh) ∧ w'.cell? ⟨n1, 1, none⟩ = some (.int .i64 q) ∧ w'.cell? ⟨n1, 2, none⟩ = some (.int .i64 kd) ∧ w'.cell? ⟨n1, 3, none⟩ = some (.string pv) ∧ w'.cell? ⟨n1, 4, none⟩ = some (.string kb) ∧ w'.cell? ⟨n1, 5, none⟩ = some (.int .i64 R) ∧ w'.cell? ⟨n1, 6, none⟩ = some (.int .i64 S) ∧ Trk w0 w' :=
  ⟨(hb.cell (p := ⟨n0, 0, none⟩) (Nat.lt_of_lt_of_le l0 H.2.2.2.2.2.2.2.2.2.2.2.2.bel.size)).trans H.1, (hb.cell (p := ⟨n0, 1, none⟩) (Nat.lt_of_lt_of_le l0 H.2.2.2.2.2.2.2.2.2.2.2.2.bel.size)).trans H.2.1, (hb.cell (p := ⟨n0, 2, none⟩) (Nat.lt_of_lt_of_le l0 H.2.2.2.2.2.2.2.2.2.2.2.2.bel.size)).trans H.2.2.1, (hb.cell (p := ⟨n0, 3, none⟩) (Nat.lt_of_lt_of_le l0 H.2.2.2.2.2.2.2.2.2.2.2.2.bel.size)).trans H.2.2.2.1, (hb.cell (p := ⟨n0, 4, none⟩) (Nat.lt_of_lt_of_le l0 H.2.2.2.2.2.2.2.2.2.2.2.2.bel.size)).trans H.2.2.2.2.1, (hb.cell (p := ⟨n1, 0, none⟩) (Nat.lt_of_lt_of_le l1 H.2.2.2.2.2.2.2.2.2.2.2.2.bel.size)).trans H.2.2.2.2.2.1, (hb.cell (p := ⟨n1, 1, none⟩) (Nat.lt_of_lt_of_le l1 H.2.2.2.2.2.2.2.2.2.2.2.2.bel.size)).trans H.2.2.2.2.2.2.1, (hb.cell (p := ⟨n1, 2, none⟩) (Nat.lt_of_lt_of_le l1 H.2.2.2.2.2.2.2.2.2.2.2.2.bel.size)).trans H.2.2.2.2.2.2.2.1, (hb.cell (p := ⟨n1, 3, none⟩) (Nat.lt_of_lt_of_le l1 H.2.2.2.2.2.2.2.2.2.2.2.2.bel.size)).trans H.2.2.2.2.2.2.2.2.1, (hb.cell (p := ⟨n1, 4, none⟩) (Nat.lt_of_lt_of_le l1 H.2.2.2.2.2.2.2.2.2.2.2.2.bel.size)).trans H.2.2.2.2.2.2.2.2.2.1, (hb.cell (p := ⟨n1, 5, none⟩) (Nat.lt_of_lt_of_le l1 H.2.2.2.2.2.2.2.2.2.2.2.2.bel.size)).trans H.2.2.2.2.2.2.2.2.2.2.1, (hb.cell (p := ⟨n1, 6, none⟩) (Nat.lt_of_lt_of_le l1 H.2.2.2.2.2.2.2.2.2.2.2.2.bel.size)).trans H.2.2.2.2.2.2.2.2.2.2.2.1, H.2.2.2.2.2.2.2.2.2.2.2.2.step hb⟩
theorem held_ap {w0 w : World} {n0 n1 : Nat} {kh ks kp kd q R S : Int} {kb pv : ByteArray} (H : w.cell? ⟨n0, 0, none⟩ = some (.int .i64 kh) ∧ w.cell? ⟨n0, 1, none⟩ = some (.int .i64 ks) ∧ w.cell? ⟨n0, 2, none⟩ = some (.int .i64 kp) ∧ w.cell? ⟨n0, 3, none⟩ = some (.int .i64 kd) ∧ w.cell? ⟨n0, 4, none⟩ = some (.string kb) ∧ w.cell? ⟨n1, 0, none⟩ = some (.int .i64 kh) ∧ w.cell? ⟨n1, 1, none⟩ = some (.int .i64 q) ∧ w.cell? ⟨n1, 2, none⟩ = some (.int .i64 kd) ∧ w.cell? ⟨n1, 3, none⟩ = some (.string pv) ∧ w.cell? ⟨n1, 4, none⟩ = some (.string kb) ∧ w.cell? ⟨n1, 5, none⟩ = some (.int .i64 R) ∧ w.cell? ⟨n1, 6, none⟩ = some (.int .i64 S) ∧ Trk w0 w) : Trk w0 w := H.2.2.2.2.2.2.2.2.2.2.2.2
theorem ini_ap {w0 w : World} {n0 n1 : Nat} {kh ks kp kd q R S : Int} {kb pv : ByteArray} (h0 : w.cell? ⟨n0, 0, none⟩ = some (.int .i64 kh)) (h1 : w.cell? ⟨n0, 1, none⟩ = some (.int .i64 ks)) (h2 : w.cell? ⟨n0, 2, none⟩ = some (.int .i64 kp)) (h3 : w.cell? ⟨n0, 3, none⟩ = some (.int .i64 kd)) (h4 : w.cell? ⟨n0, 4, none⟩ = some (.string kb)) (h5 : w.cell? ⟨n1, 0, none⟩ = some (.int .i64 kh)) (h6 : w.cell? ⟨n1, 1, none⟩ = some (.int .i64 q)) (h7 : w.cell? ⟨n1, 2, none⟩ = some (.int .i64 kd)) (h8 : w.cell? ⟨n1, 3, none⟩ = some (.string pv)) (h9 : w.cell? ⟨n1, 4, none⟩ = some (.string kb)) (h10 : w.cell? ⟨n1, 5, none⟩ = some (.int .i64 R)) (h11 : w.cell? ⟨n1, 6, none⟩ = some (.int .i64 S)) (ht : Trk w0 w) : w.cell? ⟨n0, 0, none⟩ = some (.int .i64 kh) ∧ w.cell? ⟨n0, 1, none⟩ = some (.int .i64 ks) ∧ w.cell? ⟨n0, 2, none⟩ = some (.int .i64 kp) ∧ w.cell? ⟨n0, 3, none⟩ = some (.int .i64 kd) ∧ w.cell? ⟨n0, 4, none⟩ = some (.string kb) ∧ w.cell? ⟨n1, 0, none⟩ = some (.int .i64 kh) ∧ w.cell? ⟨n1, 1, none⟩ = some (.int .i64 q) ∧ w.cell? ⟨n1, 2, none⟩ = some (.int .i64 kd) ∧ w.cell? ⟨n1, 3, none⟩ = some (.string pv) ∧ w.cell? ⟨n1, 4, none⟩ = some (.string kb) ∧ w.cell? ⟨n1, 5, none⟩ = some (.int .i64 R) ∧ w.cell? ⟨n1, 6, none⟩ = some (.int .i64 S) ∧ Trk w0 w :=
  ⟨h0, h1, h2, h3, h4, h5, h6, h7, h8, h9, h10, h11, ht⟩
set_option maxHeartbeats 4000000 in
set_option maxRecDepth 100000 in
theorem apps_few (l : List Ent) (ao : Option Addr) (lb lo c : Nat) (kh ks kp kd : Int) (kb : ByteArray) (w : World) (hl : EntsAt w ao lb lo l) (ht : Tabs w) (nl : l.length ≤ 9223372036854775807) (f1 : fewE l 14 = false) :
    Calls Tryd.prog 11 #[.slice ao l.length c, .agg #[.int .i64 kh, .int .i64 ks, .int .i64 kp, .int .i64 kd, .string kb]] w fun e w' => e = .returned (.bool true) ∧ Below w.heap.size w w' := by
  have T0 := Lib.hid ((Trk.start ht).alloc (.cells #[.int .i64 kh, .int .i64 ks, .int .i64 kp, .int .i64 kd, .string kb] 53))
  have HL := Lib.hid (hl.step (alloc_below w (.cells #[.int .i64 kh, .int .i64 ks, .int .i64 kp, .int .i64 kd, .string kb] 53)))
  have HK := Lib.hid (AtK.new w kh ks kp kd kb 53)
  have hw0 : w.heap.size < (w.alloc (.cells #[.int .i64 kh, .int .i64 ks, .int .i64 kp, .int .i64 kd, .string kb] 53)).heap.size := by simp
  clear hl ht
  go_enter Tryd.func11, Tryd.ntmps11
  go_wp2_with fail
  generalize w.alloc (.cells #[.int .i64 kh, .int .i64 ks, .int .i64 kp, .int .i64 kd, .string kb] 53) = w0 at *
  refine (head31 _ T0.out.tabs).mono ?_
  rintro e v1 ⟨rfl, hb⟩
  have T1 := Lib.hid (T0.out.step hb)
  replace HL := Lib.hid (HL.out.step hb)
  replace HK := Lib.hid (HK.out.keep hw0 hb)
  have hw1 : w.heap.size < v1.heap.size := Nat.lt_of_lt_of_le hw0 hb.size
  clear hb T0 hw0
  obtain ⟨k0, k1, k2, k3, k4⟩ := HK.out
  go_wp2_with fail
  have hx := Few_any l ao lb lo c 14 v1 nl HL.out
  rw [f1] at hx
  refine hx.mono ?_
  rintro e wx ⟨rfl, rfl⟩
  clear hx
  go_wp2_with fail
  go_ret
  exact ⟨rfl, T1.out.bel⟩
set_option maxHeartbeats 4000000 in
set_option maxRecDepth 100000 in
theorem apps_big (l : List Ent) (ao : Option Addr) (lb lo c : Nat) (kh ks kp kd : Int) (kb : ByteArray) (w : World) (hl : EntsAt w ao lb lo l) (ht : Tabs w) (nl : l.length ≤ 9223372036854775807) (f1 : fewE l 14 = true) (e1 : 2100 < kb.size) :
    Calls Tryd.prog 11 #[.slice ao l.length c, .agg #[.int .i64 kh, .int .i64 ks, .int .i64 kp, .int .i64 kd, .string kb]] w fun e w' => e = .returned (.bool true) ∧ Below w.heap.size w w' := by
  have e1' : (2100 : Int) < (kb.size : Int) := by omega
  have T0 := Lib.hid ((Trk.start ht).alloc (.cells #[.int .i64 kh, .int .i64 ks, .int .i64 kp, .int .i64 kd, .string kb] 53))
  have HL := Lib.hid (hl.step (alloc_below w (.cells #[.int .i64 kh, .int .i64 ks, .int .i64 kp, .int .i64 kd, .string kb] 53)))
  have HK := Lib.hid (AtK.new w kh ks kp kd kb 53)
  have hw0 : w.heap.size < (w.alloc (.cells #[.int .i64 kh, .int .i64 ks, .int .i64 kp, .int .i64 kd, .string kb] 53)).heap.size := by simp
  clear hl ht
  go_enter Tryd.func11, Tryd.ntmps11
  go_wp2_with fail
  generalize w.alloc (.cells #[.int .i64 kh, .int .i64 ks, .int .i64 kp, .int .i64 kd, .string kb] 53) = w0 at *
  refine (head31 _ T0.out.tabs).mono ?_
  rintro e v1 ⟨rfl, hb⟩
  have T1 := Lib.hid (T0.out.step hb)
  replace HL := Lib.hid (HL.out.step hb)
  replace HK := Lib.hid (HK.out.keep hw0 hb)
  have hw1 : w.heap.size < v1.heap.size := Nat.lt_of_lt_of_le hw0 hb.size
  clear hb T0 hw0
  obtain ⟨k0, k1, k2, k3, k4⟩ := HK.out
  go_wp2_with fail
  have hx := Few_any l ao lb lo c 14 v1 nl HL.out
  rw [f1] at hx
  refine hx.mono ?_
  rintro e wx ⟨rfl, rfl⟩
  clear hx
  go_wp2_with fail
  go_ret
  exact ⟨rfl, T1.out.bel⟩
set_option maxHeartbeats 4000000 in
set_option maxRecDepth 100000 in
theorem apps_err (l : List Ent) (ao : Option Addr) (lb lo c : Nat) (kh ks kp kd : Int) (kb : ByteArray) (w : World) (hl : EntsAt w ao lb lo l) (ht : Tabs w) (nl : l.length ≤ 9223372036854775807) (f1 : fewE l 14 = true) (e1 : kb.size ≤ 2100) (x : Int) (e2 : (x == 0) = false) (hAP : ∀ w, EntsAt w ao lb lo l → Tabs w → Calls Tryd.prog 40 #[.slice ao l.length c, .int .i64 kh, .int .i64 ks, .int .i64 kd, .string kb] w fun e w' => e = .returned (.tuple #[.slice none 0 0, .int .i64 x]) ∧ Below w.heap.size w w') :
    Calls Tryd.prog 11 #[.slice ao l.length c, .agg #[.int .i64 kh, .int .i64 ks, .int .i64 kp, .int .i64 kd, .string kb]] w fun e w' => e = .returned (.bool true) ∧ Below w.heap.size w w' := by
  have e1' : ¬ (2100 : Int) < (kb.size : Int) := by omega
  have e1'' : ¬ 2100 < kb.size := by omega
  clear e1
  have e2' : (x != 0) = true := by simp only [bne, e2]; rfl
  have AP := Lib.hid hAP
  clear hAP
  have T0 := Lib.hid ((Trk.start ht).alloc (.cells #[.int .i64 kh, .int .i64 ks, .int .i64 kp, .int .i64 kd, .string kb] 53))
  have HL := Lib.hid (hl.step (alloc_below w (.cells #[.int .i64 kh, .int .i64 ks, .int .i64 kp, .int .i64 kd, .string kb] 53)))
  have HK := Lib.hid (AtK.new w kh ks kp kd kb 53)
  have hw0 : w.heap.size < (w.alloc (.cells #[.int .i64 kh, .int .i64 ks, .int .i64 kp, .int .i64 kd, .string kb] 53)).heap.size := by simp
  clear hl ht
  go_enter Tryd.func11, Tryd.ntmps11
  go_wp2_with fail
  generalize w.alloc (.cells #[.int .i64 kh, .int .i64 ks, .int .i64 kp, .int .i64 kd, .string kb] 53) = w0 at *
  refine (head31 _ T0.out.tabs).mono ?_
  rintro e v1 ⟨rfl, hb⟩
  have T1 := Lib.hid (T0.out.step hb)
  replace HL := Lib.hid (HL.out.step hb)
  replace HK := Lib.hid (HK.out.keep hw0 hb)
  have hw1 : w.heap.size < v1.heap.size := Nat.lt_of_lt_of_le hw0 hb.size
  clear hb T0 hw0
  obtain ⟨k0, k1, k2, k3, k4⟩ := HK.out
  go_wp2_with fail
  have hx := Few_any l ao lb lo c 14 v1 nl HL.out
  rw [f1] at hx
  refine hx.mono ?_
  rintro e wx ⟨rfl, rfl⟩
  clear hx
  go_wp2_with fail
  refine (AP.out _ HL.out T1.out.tabs).mono ?_
  rintro e v2 ⟨rfl, hb⟩
  have T2 := Lib.hid (T1.out.step hb)
  clear hb
  go_wp2_with fail
  go_ret
  exact ⟨rfl, T2.out.bel⟩
set_option maxHeartbeats 4000000 in
set_option maxRecDepth 100000 in
theorem apps_main (l : List Ent) (ao : Option Addr) (lb lo c : Nat) (kh ks kp kd : Int) (kb : ByteArray) (w : World) (hl : EntsAt w ao lb lo l) (ht : Tabs w) (nl : l.length ≤ 9223372036854775807) (f1 : fewE l 14 = true) (e1 : kb.size ≤ 2100) (l14 : l.length ≤ 14) (pv tx : ByteArray) (y R S : Int) (hAP : ∀ w, EntsAt w ao lb lo l → Tabs w → Calls Tryd.prog 40 #[.slice ao l.length c, .int .i64 kh, .int .i64 ks, .int .i64 kd, .string kb] w (AppPost w (l ++ [(⟨kh, (l.length : Int), kd, pv, kb, R, S⟩ : Ent)]))) (hP : ∀ w, Calls Tryd.prog 47 #[.int .i64 ks] w fun e w' => e = .returned (.tuple #[.int .i64 y, .int .i64 0]) ∧ w = w') (hC : ∀ w ao' lb' lo' c', EntsAt w ao' lb' lo' (l ++ [(⟨kh, (l.length : Int), kd, pv, kb, R, S⟩ : Ent)]) → Tabs w → Calls Tryd.prog 38 #[.slice ao' (l ++ [(⟨kh, (l.length : Int), kd, pv, kb, R, S⟩ : Ent)]).length c', .int .i64 kh, .int .i64 y] w fun e w' => e = .returned (.tuple #[.int .i64 0, .int .i64 (-1)]) ∧ Below w.heap.size w w') (hT : ∀ w, Tabs w → Calls Tryd.prog 43 #[.agg #[.int .i64 kh, .int .i64 (l.length : Int), .int .i64 kd, .string pv, .string kb, .int .i64 R, .int .i64 S]] w fun e w' => e = .returned (.string tx) ∧ Below w.heap.size w w') (hV : ∀ w, Tabs w → Calls Tryd.prog 48 #[.int .i64 y, .string tx, .agg #[.int .i64 R, .int .i64 S]] w fun e w' => e = .returned (.bool true) ∧ Below w.heap.size w w') :
    Calls Tryd.prog 11 #[.slice ao l.length c, .agg #[.int .i64 kh, .int .i64 ks, .int .i64 kp, .int .i64 kd, .string kb]] w fun e w' => e = .returned (.bool true) ∧ Below w.heap.size w w' := by
  have e1' : ¬ (2100 : Int) < (kb.size : Int) := by omega
  have e1'' : ¬ 2100 < kb.size := by omega
  clear e1
  have AP := Lib.hid hAP
  have PB := Lib.hid hP
  have CK := Lib.hid hC
  have FT := Lib.hid hT
  have FV := Lib.hid hV
  have HLL : Hid ((l ++ [(⟨kh, (l.length : Int), kd, pv, kb, R, S⟩ : Ent)]).length = l.length + 1) := Lib.hid (by simp)
  have l14' : (l.length : Int) ≤ 14 := by omega
  clear hAP hP hC hT hV
  have T0 := Lib.hid ((Trk.start ht).alloc (.cells #[.int .i64 kh, .int .i64 ks, .int .i64 kp, .int .i64 kd, .string kb] 53))
  have HL := Lib.hid (hl.step (alloc_below w (.cells #[.int .i64 kh, .int .i64 ks, .int .i64 kp, .int .i64 kd, .string kb] 53)))
  have HK := Lib.hid (AtK.new w kh ks kp kd kb 53)
  have hw0 : w.heap.size < (w.alloc (.cells #[.int .i64 kh, .int .i64 ks, .int .i64 kp, .int .i64 kd, .string kb] 53)).heap.size := by simp
  clear hl ht
  go_enter Tryd.func11, Tryd.ntmps11
  go_wp2_with fail
  generalize w.alloc (.cells #[.int .i64 kh, .int .i64 ks, .int .i64 kp, .int .i64 kd, .string kb] 53) = w0 at *
  refine (head31 _ T0.out.tabs).mono ?_
  rintro e v1 ⟨rfl, hb⟩
  have T1 := Lib.hid (T0.out.step hb)
  replace HL := Lib.hid (HL.out.step hb)
  replace HK := Lib.hid (HK.out.keep hw0 hb)
  have hw1 : w.heap.size < v1.heap.size := Nat.lt_of_lt_of_le hw0 hb.size
  clear hb T0 hw0
  obtain ⟨k0, k1, k2, k3, k4⟩ := HK.out
  go_wp2_with fail
  have hx := Few_any l ao lb lo c 14 v1 nl HL.out
  rw [f1] at hx
  refine hx.mono ?_
  rintro e wx ⟨rfl, rfl⟩
  clear hx
  go_wp2_with fail
  refine (AP.out _ HL.out T1.out.tabs).mono ?_
  rintro e v2 ⟨ao2, c2, lb2, lo2, he, hE, hb, hc2⟩
  rw [HLL.out] at he hc2
  subst he
  have T2 := Lib.hid (T1.out.step hb)
  have M2 := Lib.hid hE
  replace HL := Lib.hid (HL.out.step hb)
  replace HK := Lib.hid (HK.out.keep hw1 hb)
  have hw2 : w.heap.size < v2.heap.size := Nat.lt_of_lt_of_le hw1 hb.size
  have hM := hE.take l.length
  rw [List.take_left] at hM
  have HS := Lib.hid (Same_yes l ao2 ao lb2 lo2 c2 lb lo c v2 nl hM HL.out)
  have hc3 : l.length ≤ c2 := by omega
  have hc4 : (l.length : Int) ≤ (c2 : Int) := by omega
  clear hb hE hM T1 k0 k1 k2 k3 k4 hw1
  obtain ⟨k0, k1, k2, k3, k4⟩ := HK.out
  go_wp2_with fail
  refine (PB.out _).mono ?_
  rintro e wx ⟨rfl, rfl⟩
  go_wp2_with fail
  refine HS.out.mono ?_
  rintro e v3 ⟨rfl, hb⟩
  have T3 := Lib.hid (T2.out.step hb)
  replace M2 := Lib.hid (M2.out.step hb)
  replace HK := Lib.hid (HK.out.keep hw2 hb)
  have hw3 : w.heap.size < v3.heap.size := Nat.lt_of_lt_of_le hw2 hb.size
  clear hb T2 hw2 k0 k1 k2 k3 k4 HS
  obtain ⟨k0, k1, k2, k3, k4⟩ := HK.out
  go_wp2_with fail
  have hck := CK.out _ ao2 lb2 lo2 c2 M2.out T3.out.tabs
  rw [HLL.out] at hck
  refine hck.mono ?_
  rintro e v4 ⟨rfl, hb⟩
  have T4 := Lib.hid (T3.out.step hb)
  replace M2 := Lib.hid (M2.out.step hb)
  replace HK := Lib.hid (HK.out.keep hw3 hb)
  have hw4 : w.heap.size < v4.heap.size := Nat.lt_of_lt_of_le hw3 hb.size
  clear hb T3 hw3 k0 k1 k2 k3 k4 hck
  obtain ⟨rfl, hlb⟩ := M2.out.ao (by rw [HLL.out]; omega)
  obtain ⟨a0, a1, a2, a3, a4, a5, a6⟩ := M2.out.at_ l.length (⟨kh, (l.length : Int), kd, pv, kb, R, S⟩ : Ent) (by simp)
  have i1 : (0 : Int) ≤ (l.length : Int) := by omega
  have i2 : (l.length : Int) < (l.length : Int) + 1 := by omega
  have i3 : l.length < l.length + 1 := by omega
  have HX := Lib.hid (new7 v4 kh (l.length : Int) kd pv kb R S 63)
  have T7 := Lib.hid (T4.out.alloc (.cells #[.int .i64 kh, .int .i64 (l.length : Int), .int .i64 kd, .string pv, .string kb, .int .i64 R, .int .i64 S] 63))
  have hx7 : v4.heap.size < (v4.alloc (.cells #[.int .i64 kh, .int .i64 (l.length : Int), .int .i64 kd, .string pv, .string kb, .int .i64 R, .int .i64 S] 63)).heap.size := by simp
  have HK7 := Lib.hid (HK.out.keep hw4 (alloc_below v4 (.cells #[.int .i64 kh, .int .i64 (l.length : Int), .int .i64 kd, .string pv, .string kb, .int .i64 R, .int .i64 S] 63)))
  have hw7 : w.heap.size < (v4.alloc (.cells #[.int .i64 kh, .int .i64 (l.length : Int), .int .i64 kd, .string pv, .string kb, .int .i64 R, .int .i64 S] 63)).heap.size := by simp; omega
  go_wp2_with fail
  clear a0 a1 a2 a3 a4 a5 a6 HK
  generalize v4.alloc (.cells #[.int .i64 kh, .int .i64 (l.length : Int), .int .i64 kd, .string pv, .string kb, .int .i64 R, .int .i64 S] 63) = w7 at *
  generalize v4.heap.size = nx at *
  obtain ⟨k0, k1, k2, k3, k4⟩ := HK7.out
  obtain ⟨x0, x1, x2, x3, x4, x5, x6⟩ := HX.out
  have HINI := Lib.hid (ini_ap k0 k1 k2 k3 k4 x0 x1 x2 x3 x4 x5 x6 (Trk.start T7.out.tabs))
  clear k0 k1 k2 k3 k4 x0 x1 x2 x3 x4 x5 x6 HK7 HX HL M2 AP CK PB HLL T4
  go_region_held_law (fun w' => w'.cell? ⟨w.heap.size, 0, none⟩ = some (.int .i64 kh) ∧ w'.cell? ⟨w.heap.size, 1, none⟩ = some (.int .i64 ks) ∧ w'.cell? ⟨w.heap.size, 2, none⟩ = some (.int .i64 kp) ∧ w'.cell? ⟨w.heap.size, 3, none⟩ = some (.int .i64 kd) ∧ w'.cell? ⟨w.heap.size, 4, none⟩ = some (.string kb) ∧ w'.cell? ⟨nx, 0, none⟩ = some (.int .i64 kh) ∧ w'.cell? ⟨nx, 1, none⟩ = some (.int .i64 (l.length : Int)) ∧ w'.cell? ⟨nx, 2, none⟩ = some (.int .i64 kd) ∧ w'.cell? ⟨nx, 3, none⟩ = some (.string pv) ∧ w'.cell? ⟨nx, 4, none⟩ = some (.string kb) ∧ w'.cell? ⟨nx, 5, none⟩ = some (.int .i64 R) ∧ w'.cell? ⟨nx, 6, none⟩ = some (.int .i64 S) ∧ Trk w7 w') (first | (with_reducible assumption) | (with_reducible exact HINI.out) | (with_reducible refine keep_ap hw7 hx7 hba ?_; with_reducible assumption) | (with_reducible refine keep_ap hw7 hx7 hbb ?_; with_reducible assumption) | (refine keep_ap hw7 hx7 (drewN_below _ 1) ?_; first | (with_reducible assumption) | (with_reducible exact HINI.out))) (first | (go_at_call 43; with_reducible refine (FT.out _ ?TT).mono ?_; (case TT => exact (by first | exact (held_ap (by assumption)).tabs | exact T7.out.tabs | exact T7.out.tabs.drew)); rintro e wa ⟨rfl, hba⟩) | (go_at_call 48; with_reducible refine (FV.out _ ?TT).mono ?_; (case TT => exact (by first | exact (held_ap (by assumption)).tabs | exact T7.out.tabs | exact T7.out.tabs.drew)); rintro e wb ⟨rfl, hbb⟩))
  all_goals
    have HFF := Lib.hid (held_ap (n0 := w.heap.size) (n1 := nx) (kh := kh) (ks := ks) (kp := kp) (kd := kd) (q := (l.length : Int)) (R := R) (S := S) (kb := kb) (pv := pv) (w0 := w7) (by assumption))
    go_wp2_with fail
    go_ret
    exact ⟨rfl, T7.out.bel.trans (HFF.out.bel.mono T7.out.bel.size)⟩
theorem law_ChainAppends (l : List Ent) (ao : Option Addr) (lb lo c : Nat) (kh ks kp kd : Int) (kb : ByteArray) (w : World) (hl : EntsAt w ao lb lo l) (il : ∀ e ∈ l, e.I) (nl : l.length ≤ 9223372036854775807) (ik : I64 kh ∧ I64 ks ∧ I64 kp ∧ I64 kd) (ht : Tabs w) :
    Calls Tryd.prog 11 #[.slice ao l.length c, .agg #[.int .i64 kh, .int .i64 ks, .int .i64 kp, .int .i64 kd, .string kb]] w fun e w' => e = .returned (.bool true) ∧ Below w.heap.size w w' := by
  rcases f1 : fewE l 14 with _ | _
  · exact apps_few l ao lb lo c kh ks kp kd kb w hl ht nl f1
  by_cases e1 : kb.size ≤ 2100
  rotate_left
  · exact apps_big l ao lb lo c kh ks kp kd kb w hl ht nl f1 (by omega)
  have l1 := few_len f1
  have ol := few_ok f1 il
  have hA := fun w h ht => Append_any l ao lb lo c kh ks kd kb w (by omega) ol h ht (by omega) ik.2.1
  by_cases h0 : appC kh ks kd kb l = 0
  · rw [h0] at hA
    have h0' := h0
    rw [appC_eq] at h0
    by_cases h1 : ks < 1 ∨ 2147483646 ≤ ks
    · rw [if_pos h1] at h0; exact absurd h0 (by decide)
    rw [if_neg h1] at h0
    obtain ⟨X, rfl⟩ : ∃ X : Nat, ks = X := ⟨ks.toNat, by omega⟩
    rw [Int.toNat_natCast] at h0 hA
    have hP := fun w => Public_ok X w (by omega) (by omega)
    have hvs : ∀ t, verB (pw 7 X : Nat) (pw 7 (kay X t) : Nat) (sgS X t : Nat) t = true := fun t => ver_sign X t
    generalize pw 7 X = y at *
    by_cases h2 : (chkE kh y l).1 ≠ 0
    · rw [if_pos h2] at h0; exact absurd h0 h2
    rw [if_neg h2] at h0
    have hgood := chkE_good (Classical.not_not.1 h2)
    have hho : I64 kh := ik.1
    have hln : I64 (l.length : Int) := ⟨by omega, by omega⟩
    have nok := newEnt_ok (x := X) (body := kb) hho hln ik.2.2.2 (lastDig_size l) (by omega)
    have hsg : (newEnt kh X kd kb l.length (lastDig l)).sgd y = true := by
      show sgdE y _ _ _ _ _ _ _ = true
      rw [sgdE_eq]; exact hvs _
    have e0 := wrong_new (ho := kh) (y := y) (l := l) (ne := newEnt kh X kd kb l.length (lastDig l)) rfl rfl rfl hsg
    have e2 : (newEnt kh X kd kb l.length (lastDig l)).body = kb := rfl
    have e3 : (newEnt kh X kd kb l.length (lastDig l)).day = kd := rfl
    rw [e2, e3, h0] at e0
    have hg2 := good_snoc kh y (newEnt kh X kd kb l.length (lastDig l)) l 0 0 ⟨#[]⟩ hgood.2 (by rw [Nat.zero_add]; exact e0)
    have hC := fun w ao' lb' lo' c' (h : EntsAt w ao' lb' lo' (l ++ [newEnt kh X kd kb l.length (lastDig l)])) ht => Check_any kh y (l ++ [newEnt kh X kd kb l.length (lastDig l)]) ao' lb' lo' c' w (by simp; omega) (fun e he => by
      rcases List.mem_append.1 he with he | he
      · exact ol e he
      · rw [List.mem_singleton.1 he]; exact nok) h ht
    rw [chkE_of hgood.1 hg2] at hC
    refine apps_main l ao lb lo c kh X kp kd kb w hl ht nl f1 e1 (by omega) (lastDig l) (txtE kh l.length kd (lastDig l) kb) y (newEnt kh X kd kb l.length (lastDig l)).r (newEnt kh X kd kb l.length (lastDig l)).s (fun w h ht => (hA w h ht).mono fun e w' h => ?_) hP hC (fun w ht => Text_raw kh l.length kd (lastDig l) kb (newEnt kh X kd kb l.length (lastDig l)).r (newEnt kh X kd kb l.length (lastDig l)).s w hho hln ik.2.2.2 (lastDig_size l) (by omega) ht) (fun w ht => ?_)
    · rcases h with ⟨h, _⟩ | ⟨_, h⟩
      · exact absurd rfl h
      · exact h
    · have hv := Verify_any y (pw 7 (kay X (txtE kh l.length kd (lastDig l) kb)) : Nat) (sgS X (txtE kh l.length kd (lastDig l) kb) : Nat) (txtE kh l.length kd (lastDig l) kb) w (Nat.le_trans (txtE_size _ _ _ _ _ hho hln ik.2.2.2 (lastDig_size l) (by omega)) (by decide)) ht
      rw [hvs] at hv
      exact hv
  · refine apps_err l ao lb lo c kh ks kp kd kb w hl ht nl f1 e1 (appC kh ks kd kb l) (by simpa using h0) (fun w h ht => (hA w h ht).mono fun e w' h => ?_)
    rcases h with ⟨_, h⟩ | ⟨h, _⟩
    · exact h
    · exact absurd h h0
end Go.Proofs.YtpdbcahiipbhnaaDoor
