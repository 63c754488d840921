/- Layer 31: the reference's Append. -/
import Derived.Test.YtpdbcahiipbhnaaDoorMH
import Derived.Test.YtpdbcahiipbhnaaDoorMA
namespace Go.Proofs.YtpdbcahiipbhnaaDoor
open Go.RowKit

theorem Box7.grown {w w' : World} {n : Nat} {h q d : Int} {p b : ByteArray} {r s : Int} {row : Option Nat} (H : Box7 w n h q d p b r s) (hg : w.grownBy w' row) (hr : some n ≠ row) : Box7 w' n h q d p b r s := by
  have e := hg.block n H.lt hr
  obtain ⟨c0, c1, c2, c3, c4, c5, c6⟩ := H.at_
  have k : ∀ j v, w.cell? ⟨n, j, none⟩ = some v → w'.cell? ⟨n, j, none⟩ = some v := fun j v hc => (World.cell?_of_block (w := w) (a := ⟨n, j, none⟩) e).trans hc
  exact ⟨Nat.lt_of_lt_of_le H.lt hg.size, ⟨k _ _ c0, k _ _ c1, k _ _ c2, k _ _ c3, k _ _ c4, k _ _ c5, k _ _ c6⟩, there_grown H.free hg H.lt hr⟩
theorem own_empty' (w : World) (B n : Nat) (hn : n = w.heap.size) (hB : B ≤ w.heap.size) (t : TypeId) : Own (w.alloc (.cells #[] t)) B 7 (.slice (some ⟨n, 0, none⟩) 0 0) 0 [] := hn ▸ own_empty w B hB t
set_option maxHeartbeats 4000000 in
set_option maxRecDepth 100000 in
theorem RApp_e_ok (l : List Ent) (ao : Option Addr) (lb lo c : Nat) (ho x y day at' : Int) (body tx : ByteArray) (R S v : Int) (w : World) (hlen : l.length = 0) (hl : EntsAt w ao lb lo l) (ht : Tabs w)
    (hP : ∀ w, Calls Tryd.prog 76 #[.int .i64 x] w fun e w' => e = .returned (.tuple #[.int .i64 y, .int .i64 0]) ∧ w = w')
    (hC : ∀ w, EntsAt w ao lb lo l → Tabs w → Calls Tryd.prog 39 #[.slice ao 0 c, .int .i64 ho, .int .i64 y] w fun e w' => e = .returned (.tuple #[.int .i64 0, .int .i64 at']) ∧ Below w.heap.size w w')
    (hT : ∀ w, Tabs w → Calls Tryd.prog 44 #[.agg #[.int .i64 ho, .int .i64 0, .int .i64 day, .string ⟨#[]⟩, .string body, .int .i64 0, .int .i64 0]] w fun e w' => e = .returned (.string tx) ∧ Below w.heap.size w w')
    (hS : ∀ w, Tabs w → Calls Tryd.prog 77 #[.int .i64 x, .string tx] w fun e w' => e = .returned (.tuple #[.agg #[.int .i64 R, .int .i64 S], .int .i64 0]) ∧ Below w.heap.size w w')
    (hW : ∀ w ao' lb' lo' c', EntsAt w ao' lb' lo' (l ++ [(⟨ho, 0, day, ⟨#[]⟩, body, R, S⟩ : Ent)]) → Tabs w → Calls Tryd.prog 74 #[.slice ao' (l ++ [(⟨ho, 0, day, ⟨#[]⟩, body, R, S⟩ : Ent)]).length c', .int .i64 0, .int .i64 ho, .int .i64 y] w fun e w' => e = .returned (.int .i64 v) ∧ Below w.heap.size w w')
    (e1 : (v == 0) = true) :
    Calls Tryd.prog 41 #[.slice ao 0 c, .int .i64 ho, .int .i64 x, .int .i64 day, .string body] w (AppRes w v (l ++ [(⟨ho, 0, day, ⟨#[]⟩, body, R, S⟩ : Ent)])) := by
  have e1' : (v != 0) = false := by simp only [bne, e1]; rfl
  have HL := Lib.hid hl
  have T0 := Lib.hid (Trk.start ht)
  have HP := Lib.hid hP
  have HC := Lib.hid hC
  have HTX := Lib.hid hT
  have HS := Lib.hid hS
  have HW := Lib.hid hW
  have HLEN : Hid (l.length = 0) := Lib.hid hlen
  have HTT := Lib.hid ht
  clear hl ht hP hC hT hS hW hlen
  go_enter Tryd.func41, Tryd.ntmps41
  go_wp2_with fail
  refine (HP.out _).mono ?_
  rintro e wx ⟨rfl, rfl⟩
  go_wp2_with fail
  refine (HC.out _ HL.out T0.out.tabs).mono ?_
  rintro e w1 ⟨rfl, hb⟩
  have T1 := Lib.hid (T0.out.step hb)
  have L1 := Lib.hid (HL.out.step hb)
  clear hb
  have HX2 := Lib.hid (Box7.new w1 ho 0 day ⟨#[]⟩ body 0 0 63)
  have T2 := Lib.hid (T1.out.alloc (.cells #[.int .i64 ho, .int .i64 0, .int .i64 day, .string ⟨#[]⟩, .string body, .int .i64 0, .int .i64 0] 63))
  have L2 := Lib.hid (L1.out.step (alloc_below w1 (.cells #[.int .i64 ho, .int .i64 0, .int .i64 day, .string ⟨#[]⟩, .string body, .int .i64 0, .int .i64 0] 63)))
  have hnx : w.heap.size ≤ w1.heap.size := T1.out.bel.size
  obtain ⟨y0, y1, y2, y3, y4, y5, y6⟩ := HX2.out.at_
  go_wp2_with fail
  clear y0 y1 y2 y3 y4 y5 y6
  generalize w1.alloc (.cells #[.int .i64 ho, .int .i64 0, .int .i64 day, .string ⟨#[]⟩, .string body, .int .i64 0, .int .i64 0] 63) = w4 at *
  generalize w1.heap.size = nx at *
  have HX4 := Lib.hid HX2.out
  have T4 := Lib.hid T2.out
  have L4 := Lib.hid L2.out
  clear HX2 T2 L2
  refine (HTX.out _ T4.out.tabs).mono ?_
  rintro e w5 ⟨rfl, hb⟩
  have HX5 := Lib.hid (HX4.out.step hb)
  have T5 := Lib.hid (T4.out.step hb)
  clear hb HX4 T4 L4
  go_wp2_with fail
  refine (HS.out _ T5.out.tabs).mono ?_
  rintro e w6 ⟨rfl, hb⟩
  have HX6 := Lib.hid (HX5.out.step hb)
  have T6 := Lib.hid (T5.out.step hb)
  clear hb HX5 T5
  obtain ⟨x0, x1, x2, x3, x4, x5, x6⟩ := HX6.out.at_
  have z5 := (HX6.out.free 5 (by omega)).2
  have z6 := (HX6.out.free 6 (by omega)).2
  rw [Nat.zero_add] at z5 z6
  have HX7 := Lib.hid (HX6.out.set56 R S)
  have T7 := Lib.hid ((T6.out.set HTT.out (a := ⟨nx, 5, none⟩) hnx (.int .i64 R)).set HTT.out (a := ⟨nx, 6, none⟩) hnx (.int .i64 S))
  have L7a := Lib.hid ((HL.out.step T7.out.bel).step (alloc_below ((w6.setCell ⟨nx, 5, none⟩ (.int .i64 R)).setCell ⟨nx, 6, none⟩ (.int .i64 S)) (.cells #[] 63)))
  have hsrc := L7a.out.src (c := c)
  rw [HLEN.out] at hsrc
  have HSRC := Lib.hid hsrc
  have hs67 : ((w6.setCell ⟨nx, 5, none⟩ (.int .i64 R)).setCell ⟨nx, 6, none⟩ (.int .i64 S)).heap.size = w6.heap.size := by simp [World.setCell]
  clear hsrc L7a HX6 T6
  go_wp2_with (first
    | (at_builtin; refine app_ent rfl _ _ rfl w6.heap.size _ 0 [] rfl (own_empty' ((w6.setCell ⟨nx, 5, none⟩ (.int .i64 R)).setCell ⟨nx, 6, none⟩ (.int .i64 S)) _ _ hs67.symm (Nat.le_of_eq hs67.symm) 63) _ 0 (cellsE l) rfl HSRC.out (by omega) (by simp [World.setCell]) ?_; intro vx w8 hown hgrow _; rw [Nat.zero_add, List.nil_append] at hown; have B8 : Below ((w6.setCell ⟨nx, 5, none⟩ (.int .i64 R)).setCell ⟨nx, 6, none⟩ (.int .i64 S)).heap.size ((w6.setCell ⟨nx, 5, none⟩ (.int .i64 R)).setCell ⟨nx, 6, none⟩ (.int .i64 S)) w8 := ((Below.refl ((w6.setCell ⟨nx, 5, none⟩ (.int .i64 R)).setCell ⟨nx, 6, none⟩ (.int .i64 S)).heap.size ((w6.setCell ⟨nx, 5, none⟩ (.int .i64 R)).setCell ⟨nx, 6, none⟩ (.int .i64 S))).alloc (Nat.le_refl _) (.cells #[] 63)).grown hgrow (by simp) (fun k hk => by cases hk; exact Nat.le_of_eq hs67); have T8 := Lib.hid (T7.out.step B8); have HX8 := Lib.hid (HX7.out.step B8); have HO := Lib.hid hown; have HB8 := Lib.hid B8; obtain ⟨ax, cx, hvx, _, _⟩ := hown.shape; subst hvx; clear hown hgrow B8 x0 x1 x2 x3 x4 x5 x6 z5 z6; obtain ⟨x0, x1, x2, x3, x4, x5, x6⟩ := HX8.out.at_)
    | (at_builtin; refine app_ent rfl _ _ rfl w6.heap.size _ 0 (cellsE l) rfl (HO.out.alloc (.cells #[.int .i64 ho, .int .i64 0, .int .i64 day, .string ⟨#[]⟩, .string body, .int .i64 R, .int .i64 S] 63)) _ 1 (Ent.cells (⟨ho, 0, day, ⟨#[]⟩, body, R, S⟩ : Ent)) rfl (src_range (rangeAt_new w8 _ 63) rfl (cellsE_one [(⟨ho, 0, day, ⟨#[]⟩, body, R, S⟩ : Ent)])) (by omega) (by have := HB8.out.size; rw [hs67] at this; simp; omega) ?_; intro v3 w9 hown3 hgrow3 _; have hlt3 := HO.out.lt; have B9 : Below ((w6.setCell ⟨nx, 5, none⟩ (.int .i64 R)).setCell ⟨nx, 6, none⟩ (.int .i64 S)).heap.size w8 w9 := ((Below.refl ((w6.setCell ⟨nx, 5, none⟩ (.int .i64 R)).setCell ⟨nx, 6, none⟩ (.int .i64 S)).heap.size w8).alloc HB8.out.size (.cells #[.int .i64 ho, .int .i64 0, .int .i64 day, .string ⟨#[]⟩, .string body, .int .i64 R, .int .i64 S] 63)).grown hgrow3 (by have := HB8.out.size; simp at this ⊢; omega) (fun g hg => Nat.le_trans (Nat.le_of_eq hs67) (hlt3 g hg).1); have T9 := Lib.hid (Trk.mk (HTT.out.below (T7.out.bel.trans ((HB8.out.trans B9).mono T7.out.bel.size)) (Nat.le_refl _)) (T7.out.bel.trans ((HB8.out.trans B9).mono T7.out.bel.size))); have HOW := Lib.hid hown3; obtain ⟨av, cv, hv3, _, _⟩ := hown3.shape; subst hv3; clear hown3 hgrow3 hlt3 B9 x0 x1 x2 x3 x4 x5 x6))
  have hO : Own w9 w6.heap.size 7 (.slice av (0 + 1) cv) (l ++ [(⟨ho, 0, day, ⟨#[]⟩, body, R, S⟩ : Ent)]).length (cellsE (l ++ [(⟨ho, 0, day, ⟨#[]⟩, body, R, S⟩ : Ent)])) := by
    have e1 : (l ++ [(⟨ho, 0, day, ⟨#[]⟩, body, R, S⟩ : Ent)]).length = 0 + 1 := by rw [List.length_append, HLEN.out]; simp
    rw [e1, cellsE_append]
    exact HOW.out
  obtain ⟨ao2, cap2, lb2, lo2, hv2, hE, hcp⟩ := hO.ents
  have HCP := Lib.hid hcp
  have HEE := Lib.hid hE
  have hll : (l ++ [(⟨ho, 0, day, ⟨#[]⟩, body, R, S⟩ : Ent)]).length = 0 + 1 := by rw [List.length_append, HLEN.out]; simp
  rw [hll] at hv2
  injection hv2 with hv4 hv5 hv6
  subst hv4 hv6
  clear hO hE hcp
  have hw := HW.out _ _ lb2 lo2 cv HEE.out T9.out.tabs
  rw [hll] at hw
  refine hw.mono ?_
  rintro e w10 ⟨rfl, hb⟩
  have T10 := Lib.hid (T9.out.step hb)
  have HE10 := Lib.hid (HEE.out.step hb)
  clear hb
  go_wp2_with fail
  go_ret2
  exact .inr ⟨by simpa using e1, _, cv, lb2, lo2, by rw [hll]; simp, HE10.out, T10.out.bel, HCP.out⟩
set_option maxHeartbeats 4000000 in
set_option maxRecDepth 100000 in
theorem RApp_e_bad (l : List Ent) (ao : Option Addr) (lb lo c : Nat) (ho x y day at' : Int) (body tx : ByteArray) (R S v : Int) (w : World) (hlen : l.length = 0) (hl : EntsAt w ao lb lo l) (ht : Tabs w)
    (hP : ∀ w, Calls Tryd.prog 76 #[.int .i64 x] w fun e w' => e = .returned (.tuple #[.int .i64 y, .int .i64 0]) ∧ w = w')
    (hC : ∀ w, EntsAt w ao lb lo l → Tabs w → Calls Tryd.prog 39 #[.slice ao 0 c, .int .i64 ho, .int .i64 y] w fun e w' => e = .returned (.tuple #[.int .i64 0, .int .i64 at']) ∧ Below w.heap.size w w')
    (hT : ∀ w, Tabs w → Calls Tryd.prog 44 #[.agg #[.int .i64 ho, .int .i64 0, .int .i64 day, .string ⟨#[]⟩, .string body, .int .i64 0, .int .i64 0]] w fun e w' => e = .returned (.string tx) ∧ Below w.heap.size w w')
    (hS : ∀ w, Tabs w → Calls Tryd.prog 77 #[.int .i64 x, .string tx] w fun e w' => e = .returned (.tuple #[.agg #[.int .i64 R, .int .i64 S], .int .i64 0]) ∧ Below w.heap.size w w')
    (hW : ∀ w ao' lb' lo' c', EntsAt w ao' lb' lo' (l ++ [(⟨ho, 0, day, ⟨#[]⟩, body, R, S⟩ : Ent)]) → Tabs w → Calls Tryd.prog 74 #[.slice ao' (l ++ [(⟨ho, 0, day, ⟨#[]⟩, body, R, S⟩ : Ent)]).length c', .int .i64 0, .int .i64 ho, .int .i64 y] w fun e w' => e = .returned (.int .i64 v) ∧ Below w.heap.size w w')
    (e1 : (v == 0) = false) :
    Calls Tryd.prog 41 #[.slice ao 0 c, .int .i64 ho, .int .i64 x, .int .i64 day, .string body] w (AppRes w v (l ++ [(⟨ho, 0, day, ⟨#[]⟩, body, R, S⟩ : Ent)])) := by
  have e1' : (v != 0) = true := by simp only [bne, e1]; rfl
  have HL := Lib.hid hl
  have T0 := Lib.hid (Trk.start ht)
  have HP := Lib.hid hP
  have HC := Lib.hid hC
  have HTX := Lib.hid hT
  have HS := Lib.hid hS
  have HW := Lib.hid hW
  have HLEN : Hid (l.length = 0) := Lib.hid hlen
  have HTT := Lib.hid ht
  clear hl ht hP hC hT hS hW hlen
  go_enter Tryd.func41, Tryd.ntmps41
  go_wp2_with fail
  refine (HP.out _).mono ?_
  rintro e wx ⟨rfl, rfl⟩
  go_wp2_with fail
  refine (HC.out _ HL.out T0.out.tabs).mono ?_
  rintro e w1 ⟨rfl, hb⟩
  have T1 := Lib.hid (T0.out.step hb)
  have L1 := Lib.hid (HL.out.step hb)
  clear hb
  have HX2 := Lib.hid (Box7.new w1 ho 0 day ⟨#[]⟩ body 0 0 63)
  have T2 := Lib.hid (T1.out.alloc (.cells #[.int .i64 ho, .int .i64 0, .int .i64 day, .string ⟨#[]⟩, .string body, .int .i64 0, .int .i64 0] 63))
  have L2 := Lib.hid (L1.out.step (alloc_below w1 (.cells #[.int .i64 ho, .int .i64 0, .int .i64 day, .string ⟨#[]⟩, .string body, .int .i64 0, .int .i64 0] 63)))
  have hnx : w.heap.size ≤ w1.heap.size := T1.out.bel.size
  obtain ⟨y0, y1, y2, y3, y4, y5, y6⟩ := HX2.out.at_
  go_wp2_with fail
  clear y0 y1 y2 y3 y4 y5 y6
  generalize w1.alloc (.cells #[.int .i64 ho, .int .i64 0, .int .i64 day, .string ⟨#[]⟩, .string body, .int .i64 0, .int .i64 0] 63) = w4 at *
  generalize w1.heap.size = nx at *
  have HX4 := Lib.hid HX2.out
  have T4 := Lib.hid T2.out
  have L4 := Lib.hid L2.out
  clear HX2 T2 L2
  refine (HTX.out _ T4.out.tabs).mono ?_
  rintro e w5 ⟨rfl, hb⟩
  have HX5 := Lib.hid (HX4.out.step hb)
  have T5 := Lib.hid (T4.out.step hb)
  clear hb HX4 T4 L4
  go_wp2_with fail
  refine (HS.out _ T5.out.tabs).mono ?_
  rintro e w6 ⟨rfl, hb⟩
  have HX6 := Lib.hid (HX5.out.step hb)
  have T6 := Lib.hid (T5.out.step hb)
  clear hb HX5 T5
  obtain ⟨x0, x1, x2, x3, x4, x5, x6⟩ := HX6.out.at_
  have z5 := (HX6.out.free 5 (by omega)).2
  have z6 := (HX6.out.free 6 (by omega)).2
  rw [Nat.zero_add] at z5 z6
  have HX7 := Lib.hid (HX6.out.set56 R S)
  have T7 := Lib.hid ((T6.out.set HTT.out (a := ⟨nx, 5, none⟩) hnx (.int .i64 R)).set HTT.out (a := ⟨nx, 6, none⟩) hnx (.int .i64 S))
  have L7a := Lib.hid ((HL.out.step T7.out.bel).step (alloc_below ((w6.setCell ⟨nx, 5, none⟩ (.int .i64 R)).setCell ⟨nx, 6, none⟩ (.int .i64 S)) (.cells #[] 63)))
  have hsrc := L7a.out.src (c := c)
  rw [HLEN.out] at hsrc
  have HSRC := Lib.hid hsrc
  have hs67 : ((w6.setCell ⟨nx, 5, none⟩ (.int .i64 R)).setCell ⟨nx, 6, none⟩ (.int .i64 S)).heap.size = w6.heap.size := by simp [World.setCell]
  clear hsrc L7a HX6 T6
  go_wp2_with (first
    | (at_builtin; refine app_ent rfl _ _ rfl w6.heap.size _ 0 [] rfl (own_empty' ((w6.setCell ⟨nx, 5, none⟩ (.int .i64 R)).setCell ⟨nx, 6, none⟩ (.int .i64 S)) _ _ hs67.symm (Nat.le_of_eq hs67.symm) 63) _ 0 (cellsE l) rfl HSRC.out (by omega) (by simp [World.setCell]) ?_; intro vx w8 hown hgrow _; rw [Nat.zero_add, List.nil_append] at hown; have B8 : Below ((w6.setCell ⟨nx, 5, none⟩ (.int .i64 R)).setCell ⟨nx, 6, none⟩ (.int .i64 S)).heap.size ((w6.setCell ⟨nx, 5, none⟩ (.int .i64 R)).setCell ⟨nx, 6, none⟩ (.int .i64 S)) w8 := ((Below.refl ((w6.setCell ⟨nx, 5, none⟩ (.int .i64 R)).setCell ⟨nx, 6, none⟩ (.int .i64 S)).heap.size ((w6.setCell ⟨nx, 5, none⟩ (.int .i64 R)).setCell ⟨nx, 6, none⟩ (.int .i64 S))).alloc (Nat.le_refl _) (.cells #[] 63)).grown hgrow (by simp) (fun k hk => by cases hk; exact Nat.le_of_eq hs67); have T8 := Lib.hid (T7.out.step B8); have HX8 := Lib.hid (HX7.out.step B8); have HO := Lib.hid hown; have HB8 := Lib.hid B8; obtain ⟨ax, cx, hvx, _, _⟩ := hown.shape; subst hvx; clear hown hgrow B8 x0 x1 x2 x3 x4 x5 x6 z5 z6; obtain ⟨x0, x1, x2, x3, x4, x5, x6⟩ := HX8.out.at_)
    | (at_builtin; refine app_ent rfl _ _ rfl w6.heap.size _ 0 (cellsE l) rfl (HO.out.alloc (.cells #[.int .i64 ho, .int .i64 0, .int .i64 day, .string ⟨#[]⟩, .string body, .int .i64 R, .int .i64 S] 63)) _ 1 (Ent.cells (⟨ho, 0, day, ⟨#[]⟩, body, R, S⟩ : Ent)) rfl (src_range (rangeAt_new w8 _ 63) rfl (cellsE_one [(⟨ho, 0, day, ⟨#[]⟩, body, R, S⟩ : Ent)])) (by omega) (by have := HB8.out.size; rw [hs67] at this; simp; omega) ?_; intro v3 w9 hown3 hgrow3 _; have hlt3 := HO.out.lt; have B9 : Below ((w6.setCell ⟨nx, 5, none⟩ (.int .i64 R)).setCell ⟨nx, 6, none⟩ (.int .i64 S)).heap.size w8 w9 := ((Below.refl ((w6.setCell ⟨nx, 5, none⟩ (.int .i64 R)).setCell ⟨nx, 6, none⟩ (.int .i64 S)).heap.size w8).alloc HB8.out.size (.cells #[.int .i64 ho, .int .i64 0, .int .i64 day, .string ⟨#[]⟩, .string body, .int .i64 R, .int .i64 S] 63)).grown hgrow3 (by have := HB8.out.size; simp at this ⊢; omega) (fun g hg => Nat.le_trans (Nat.le_of_eq hs67) (hlt3 g hg).1); have T9 := Lib.hid (Trk.mk (HTT.out.below (T7.out.bel.trans ((HB8.out.trans B9).mono T7.out.bel.size)) (Nat.le_refl _)) (T7.out.bel.trans ((HB8.out.trans B9).mono T7.out.bel.size))); have HOW := Lib.hid hown3; obtain ⟨av, cv, hv3, _, _⟩ := hown3.shape; subst hv3; clear hown3 hgrow3 hlt3 B9 x0 x1 x2 x3 x4 x5 x6))
  have hO : Own w9 w6.heap.size 7 (.slice av (0 + 1) cv) (l ++ [(⟨ho, 0, day, ⟨#[]⟩, body, R, S⟩ : Ent)]).length (cellsE (l ++ [(⟨ho, 0, day, ⟨#[]⟩, body, R, S⟩ : Ent)])) := by
    have e1 : (l ++ [(⟨ho, 0, day, ⟨#[]⟩, body, R, S⟩ : Ent)]).length = 0 + 1 := by rw [List.length_append, HLEN.out]; simp
    rw [e1, cellsE_append]
    exact HOW.out
  obtain ⟨ao2, cap2, lb2, lo2, hv2, hE, hcp⟩ := hO.ents
  have HCP := Lib.hid hcp
  have HEE := Lib.hid hE
  have hll : (l ++ [(⟨ho, 0, day, ⟨#[]⟩, body, R, S⟩ : Ent)]).length = 0 + 1 := by rw [List.length_append, HLEN.out]; simp
  rw [hll] at hv2
  injection hv2 with hv4 hv5 hv6
  subst hv4 hv6
  clear hO hE hcp
  have hw := HW.out _ _ lb2 lo2 cv HEE.out T9.out.tabs
  rw [hll] at hw
  refine hw.mono ?_
  rintro e w10 ⟨rfl, hb⟩
  have T10 := Lib.hid (T9.out.step hb)
  have HE10 := Lib.hid (HEE.out.step hb)
  clear hb
  go_wp2_with fail
  go_ret2
  exact .inl ⟨by simpa using e1, rfl, T10.out.bel⟩
set_option maxHeartbeats 4000000 in
set_option maxRecDepth 100000 in
theorem RApp_n_ok (k : Nat) (p : Ent) (dg : ByteArray) (l : List Ent) (ao : Option Addr) (lb lo c : Nat) (ho x y day at' : Int) (body tx : ByteArray) (R S v : Int) (w : World) (hlen : l.length = (k + 1)) (hk : k < 99) (hp : l[k]? = some p) (hl : EntsAt w ao lb lo l) (ht : Tabs w)
    (hP : ∀ w, Calls Tryd.prog 76 #[.int .i64 x] w fun e w' => e = .returned (.tuple #[.int .i64 y, .int .i64 0]) ∧ w = w')
    (hC : ∀ w, EntsAt w ao lb lo l → Tabs w → Calls Tryd.prog 39 #[.slice ao (k + 1) c, .int .i64 ho, .int .i64 y] w fun e w' => e = .returned (.tuple #[.int .i64 0, .int .i64 at']) ∧ Below w.heap.size w w')
    (hD : ∀ w, Tabs w → Calls Tryd.prog 49 #[.agg #[.int .i64 p.house, .int .i64 p.seq, .int .i64 p.day, .string p.prev, .string p.body, .int .i64 p.r, .int .i64 p.s]] w fun e w' => e = .returned (.string dg) ∧ Below w.heap.size w w')
    (hT : ∀ w, Tabs w → Calls Tryd.prog 44 #[.agg #[.int .i64 ho, .int .i64 ((k : Int) + 1), .int .i64 day, .string dg, .string body, .int .i64 0, .int .i64 0]] w fun e w' => e = .returned (.string tx) ∧ Below w.heap.size w w')
    (hS : ∀ w, Tabs w → Calls Tryd.prog 77 #[.int .i64 x, .string tx] w fun e w' => e = .returned (.tuple #[.agg #[.int .i64 R, .int .i64 S], .int .i64 0]) ∧ Below w.heap.size w w')
    (hW : ∀ w ao' lb' lo' c', EntsAt w ao' lb' lo' (l ++ [(⟨ho, ((k : Int) + 1), day, dg, body, R, S⟩ : Ent)]) → Tabs w → Calls Tryd.prog 74 #[.slice ao' (l ++ [(⟨ho, ((k : Int) + 1), day, dg, body, R, S⟩ : Ent)]).length c', .int .i64 ((k : Int) + 1), .int .i64 ho, .int .i64 y] w fun e w' => e = .returned (.int .i64 v) ∧ Below w.heap.size w w')
    (e1 : (v == 0) = true) :
    Calls Tryd.prog 41 #[.slice ao (k + 1) c, .int .i64 ho, .int .i64 x, .int .i64 day, .string body] w (AppRes w v (l ++ [(⟨ho, ((k : Int) + 1), day, dg, body, R, S⟩ : Ent)])) := by
  have e1' : (v != 0) = false := by simp only [bne, e1]; rfl
  have HL := Lib.hid hl
  have T0 := Lib.hid (Trk.start ht)
  have HP := Lib.hid hP
  have HC := Lib.hid hC
  have HTX := Lib.hid hT
  have HS := Lib.hid hS
  have HW := Lib.hid hW
  have HLEN : Hid (l.length = (k + 1)) := Lib.hid hlen
  have HTT := Lib.hid ht
  have HD := Lib.hid hD
  have HPK := Lib.hid hp
  have j1 : (0 : Int) ≤ (k : Int) := by omega
  have j2 : (k : Int) ≤ 99 := by omega
  have j4 : (0 : Int) < (k : Int) + 1 := by omega
  have j5 : (k : Int) + 1 - 1 = (k : Int) := by omega
  have j3 : (k : Int) < (k : Int) + 1 := by omega
  obtain ⟨rfl, hlb⟩ := hl.ao (by omega)
  clear hD hp
  clear hl ht hP hC hT hS hW hlen
  go_enter Tryd.func41, Tryd.ntmps41
  go_wp2_with fail
  refine (HP.out _).mono ?_
  rintro e wx ⟨rfl, rfl⟩
  go_wp2_with fail
  refine (HC.out _ HL.out T0.out.tabs).mono ?_
  rintro e w1 ⟨rfl, hb⟩
  have T1 := Lib.hid (T0.out.step hb)
  have L1 := Lib.hid (HL.out.step hb)
  have hlb1 : lb < w1.heap.size := Nat.lt_of_lt_of_le hlb hb.size
  clear hb
  have HX2 := Lib.hid (Box7.new w1 ho ((k : Int) + 1) day ⟨#[]⟩ body 0 0 63)
  have T2 := Lib.hid (T1.out.alloc (.cells #[.int .i64 ho, .int .i64 ((k : Int) + 1), .int .i64 day, .string ⟨#[]⟩, .string body, .int .i64 0, .int .i64 0] 63))
  have L2 := Lib.hid (L1.out.step (alloc_below w1 (.cells #[.int .i64 ho, .int .i64 ((k : Int) + 1), .int .i64 day, .string ⟨#[]⟩, .string body, .int .i64 0, .int .i64 0] 63)))
  have hnx : w.heap.size ≤ w1.heap.size := T1.out.bel.size
  obtain ⟨b0, b1, b2, b3, b4, b5, b6⟩ := L2.out.at_ k p HPK.out
  go_wp2_with fail
  clear b0 b1 b2 b3 b4 b5 b6
  generalize w1.alloc (.cells #[.int .i64 ho, .int .i64 ((k : Int) + 1), .int .i64 day, .string ⟨#[]⟩, .string body, .int .i64 0, .int .i64 0] 63) = w2 at *
  generalize w1.heap.size = nx at *
  refine (HD.out _ T2.out.tabs).mono ?_
  rintro e w3 ⟨rfl, hb⟩
  have HX3 := Lib.hid (HX2.out.step hb)
  have T3 := Lib.hid (T2.out.step hb)
  have L3 := Lib.hid (L2.out.step hb)
  clear hb HX2 T2 L2
  obtain ⟨x0, x1, x2, x3, x4, x5, x6⟩ := HX3.out.at_
  have z3 := (HX3.out.free 3 (by omega)).2
  rw [Nat.zero_add] at z3
  have HX4 := Lib.hid (HX3.out.set3 dg)
  obtain ⟨y0, y1, y2, y3, y4, y5, y6⟩ := HX4.out.at_
  have T4 := Lib.hid (T3.out.set HTT.out (a := ⟨nx, 3, none⟩) hnx (.string dg))
  have L4 := Lib.hid (HL.out.step T4.out.bel)
  go_wp2_with fail
  clear x0 x1 x2 x3 x4 x5 x6 y0 y1 y2 y3 y4 y5 y6 z3 HX3 T3 L3
  generalize w3.setCell ⟨nx, 3, none⟩ (.string dg) = w4 at *
  refine (HTX.out _ T4.out.tabs).mono ?_
  rintro e w5 ⟨rfl, hb⟩
  have HX5 := Lib.hid (HX4.out.step hb)
  have T5 := Lib.hid (T4.out.step hb)
  clear hb HX4 T4 L4
  go_wp2_with fail
  refine (HS.out _ T5.out.tabs).mono ?_
  rintro e w6 ⟨rfl, hb⟩
  have HX6 := Lib.hid (HX5.out.step hb)
  have T6 := Lib.hid (T5.out.step hb)
  clear hb HX5 T5
  obtain ⟨x0, x1, x2, x3, x4, x5, x6⟩ := HX6.out.at_
  have z5 := (HX6.out.free 5 (by omega)).2
  have z6 := (HX6.out.free 6 (by omega)).2
  rw [Nat.zero_add] at z5 z6
  have HX7 := Lib.hid (HX6.out.set56 R S)
  have T7 := Lib.hid ((T6.out.set HTT.out (a := ⟨nx, 5, none⟩) hnx (.int .i64 R)).set HTT.out (a := ⟨nx, 6, none⟩) hnx (.int .i64 S))
  have L7a := Lib.hid ((HL.out.step T7.out.bel).step (alloc_below ((w6.setCell ⟨nx, 5, none⟩ (.int .i64 R)).setCell ⟨nx, 6, none⟩ (.int .i64 S)) (.cells #[] 63)))
  have hsrc := L7a.out.src (c := c)
  rw [HLEN.out] at hsrc
  have HSRC := Lib.hid hsrc
  have hs67 : ((w6.setCell ⟨nx, 5, none⟩ (.int .i64 R)).setCell ⟨nx, 6, none⟩ (.int .i64 S)).heap.size = w6.heap.size := by simp [World.setCell]
  clear hsrc L7a HX6 T6
  go_wp2_with (first
    | (at_builtin; refine app_ent rfl _ _ rfl w6.heap.size _ 0 [] rfl (own_empty' ((w6.setCell ⟨nx, 5, none⟩ (.int .i64 R)).setCell ⟨nx, 6, none⟩ (.int .i64 S)) _ _ hs67.symm (Nat.le_of_eq hs67.symm) 63) _ (k + 1) (cellsE l) rfl HSRC.out (by omega) (by simp [World.setCell]) ?_; intro vx w8 hown hgrow _; rw [Nat.zero_add, List.nil_append] at hown; have B8 : Below ((w6.setCell ⟨nx, 5, none⟩ (.int .i64 R)).setCell ⟨nx, 6, none⟩ (.int .i64 S)).heap.size ((w6.setCell ⟨nx, 5, none⟩ (.int .i64 R)).setCell ⟨nx, 6, none⟩ (.int .i64 S)) w8 := ((Below.refl ((w6.setCell ⟨nx, 5, none⟩ (.int .i64 R)).setCell ⟨nx, 6, none⟩ (.int .i64 S)).heap.size ((w6.setCell ⟨nx, 5, none⟩ (.int .i64 R)).setCell ⟨nx, 6, none⟩ (.int .i64 S))).alloc (Nat.le_refl _) (.cells #[] 63)).grown hgrow (by simp) (fun k hk => by cases hk; exact Nat.le_of_eq hs67); have T8 := Lib.hid (T7.out.step B8); have HX8 := Lib.hid (HX7.out.step B8); have HO := Lib.hid hown; have HB8 := Lib.hid B8; obtain ⟨ax, cx, hvx, _, _⟩ := hown.shape; subst hvx; clear hown hgrow B8 x0 x1 x2 x3 x4 x5 x6 z5 z6; obtain ⟨x0, x1, x2, x3, x4, x5, x6⟩ := HX8.out.at_)
    | (at_builtin; refine app_ent rfl _ _ rfl w6.heap.size _ (k + 1) (cellsE l) rfl (HO.out.alloc (.cells #[.int .i64 ho, .int .i64 ((k : Int) + 1), .int .i64 day, .string dg, .string body, .int .i64 R, .int .i64 S] 63)) _ 1 (Ent.cells (⟨ho, ((k : Int) + 1), day, dg, body, R, S⟩ : Ent)) rfl (src_range (rangeAt_new w8 _ 63) rfl (cellsE_one [(⟨ho, ((k : Int) + 1), day, dg, body, R, S⟩ : Ent)])) (by omega) (by have := HB8.out.size; rw [hs67] at this; simp; omega) ?_; intro v3 w9 hown3 hgrow3 _; have hlt3 := HO.out.lt; have B9 : Below ((w6.setCell ⟨nx, 5, none⟩ (.int .i64 R)).setCell ⟨nx, 6, none⟩ (.int .i64 S)).heap.size w8 w9 := ((Below.refl ((w6.setCell ⟨nx, 5, none⟩ (.int .i64 R)).setCell ⟨nx, 6, none⟩ (.int .i64 S)).heap.size w8).alloc HB8.out.size (.cells #[.int .i64 ho, .int .i64 ((k : Int) + 1), .int .i64 day, .string dg, .string body, .int .i64 R, .int .i64 S] 63)).grown hgrow3 (by have := HB8.out.size; simp at this ⊢; omega) (fun g hg => Nat.le_trans (Nat.le_of_eq hs67) (hlt3 g hg).1); have T9 := Lib.hid (Trk.mk (HTT.out.below (T7.out.bel.trans ((HB8.out.trans B9).mono T7.out.bel.size)) (Nat.le_refl _)) (T7.out.bel.trans ((HB8.out.trans B9).mono T7.out.bel.size))); have HOW := Lib.hid hown3; obtain ⟨av, cv, hv3, _, _⟩ := hown3.shape; subst hv3; clear hown3 hgrow3 hlt3 B9 x0 x1 x2 x3 x4 x5 x6))
  have hO : Own w9 w6.heap.size 7 (.slice av ((k + 1) + 1) cv) (l ++ [(⟨ho, ((k : Int) + 1), day, dg, body, R, S⟩ : Ent)]).length (cellsE (l ++ [(⟨ho, ((k : Int) + 1), day, dg, body, R, S⟩ : Ent)])) := by
    have e1 : (l ++ [(⟨ho, ((k : Int) + 1), day, dg, body, R, S⟩ : Ent)]).length = (k + 1) + 1 := by rw [List.length_append, HLEN.out]; simp
    rw [e1, cellsE_append]
    exact HOW.out
  obtain ⟨ao2, cap2, lb2, lo2, hv2, hE, hcp⟩ := hO.ents
  have HCP := Lib.hid hcp
  have HEE := Lib.hid hE
  have hll : (l ++ [(⟨ho, ((k : Int) + 1), day, dg, body, R, S⟩ : Ent)]).length = (k + 1) + 1 := by rw [List.length_append, HLEN.out]; simp
  rw [hll] at hv2
  injection hv2 with hv4 hv5 hv6
  subst hv4 hv6
  clear hO hE hcp
  have hw := HW.out _ _ lb2 lo2 cv HEE.out T9.out.tabs
  rw [hll] at hw
  refine hw.mono ?_
  rintro e w10 ⟨rfl, hb⟩
  have T10 := Lib.hid (T9.out.step hb)
  have HE10 := Lib.hid (HEE.out.step hb)
  clear hb
  go_wp2_with fail
  go_ret2
  exact .inr ⟨by simpa using e1, _, cv, lb2, lo2, by rw [hll]; simp, HE10.out, T10.out.bel, HCP.out⟩
set_option maxHeartbeats 4000000 in
set_option maxRecDepth 100000 in
theorem RApp_n_bad (k : Nat) (p : Ent) (dg : ByteArray) (l : List Ent) (ao : Option Addr) (lb lo c : Nat) (ho x y day at' : Int) (body tx : ByteArray) (R S v : Int) (w : World) (hlen : l.length = (k + 1)) (hk : k < 99) (hp : l[k]? = some p) (hl : EntsAt w ao lb lo l) (ht : Tabs w)
    (hP : ∀ w, Calls Tryd.prog 76 #[.int .i64 x] w fun e w' => e = .returned (.tuple #[.int .i64 y, .int .i64 0]) ∧ w = w')
    (hC : ∀ w, EntsAt w ao lb lo l → Tabs w → Calls Tryd.prog 39 #[.slice ao (k + 1) c, .int .i64 ho, .int .i64 y] w fun e w' => e = .returned (.tuple #[.int .i64 0, .int .i64 at']) ∧ Below w.heap.size w w')
    (hD : ∀ w, Tabs w → Calls Tryd.prog 49 #[.agg #[.int .i64 p.house, .int .i64 p.seq, .int .i64 p.day, .string p.prev, .string p.body, .int .i64 p.r, .int .i64 p.s]] w fun e w' => e = .returned (.string dg) ∧ Below w.heap.size w w')
    (hT : ∀ w, Tabs w → Calls Tryd.prog 44 #[.agg #[.int .i64 ho, .int .i64 ((k : Int) + 1), .int .i64 day, .string dg, .string body, .int .i64 0, .int .i64 0]] w fun e w' => e = .returned (.string tx) ∧ Below w.heap.size w w')
    (hS : ∀ w, Tabs w → Calls Tryd.prog 77 #[.int .i64 x, .string tx] w fun e w' => e = .returned (.tuple #[.agg #[.int .i64 R, .int .i64 S], .int .i64 0]) ∧ Below w.heap.size w w')
    (hW : ∀ w ao' lb' lo' c', EntsAt w ao' lb' lo' (l ++ [(⟨ho, ((k : Int) + 1), day, dg, body, R, S⟩ : Ent)]) → Tabs w → Calls Tryd.prog 74 #[.slice ao' (l ++ [(⟨ho, ((k : Int) + 1), day, dg, body, R, S⟩ : Ent)]).length c', .int .i64 ((k : Int) + 1), .int .i64 ho, .int .i64 y] w fun e w' => e = .returned (.int .i64 v) ∧ Below w.heap.size w w')
    (e1 : (v == 0) = false) :
    Calls Tryd.prog 41 #[.slice ao (k + 1) c, .int .i64 ho, .int .i64 x, .int .i64 day, .string body] w (AppRes w v (l ++ [(⟨ho, ((k : Int) + 1), day, dg, body, R, S⟩ : Ent)])) := by
  have e1' : (v != 0) = true := by simp only [bne, e1]; rfl
  have HL := Lib.hid hl
  have T0 := Lib.hid (Trk.start ht)
  have HP := Lib.hid hP
  have HC := Lib.hid hC
  have HTX := Lib.hid hT
  have HS := Lib.hid hS
  have HW := Lib.hid hW
  have HLEN : Hid (l.length = (k + 1)) := Lib.hid hlen
  have HTT := Lib.hid ht
  have HD := Lib.hid hD
  have HPK := Lib.hid hp
  have j1 : (0 : Int) ≤ (k : Int) := by omega
  have j2 : (k : Int) ≤ 99 := by omega
  have j4 : (0 : Int) < (k : Int) + 1 := by omega
  have j5 : (k : Int) + 1 - 1 = (k : Int) := by omega
  have j3 : (k : Int) < (k : Int) + 1 := by omega
  obtain ⟨rfl, hlb⟩ := hl.ao (by omega)
  clear hD hp
  clear hl ht hP hC hT hS hW hlen
  go_enter Tryd.func41, Tryd.ntmps41
  go_wp2_with fail
  refine (HP.out _).mono ?_
  rintro e wx ⟨rfl, rfl⟩
  go_wp2_with fail
  refine (HC.out _ HL.out T0.out.tabs).mono ?_
  rintro e w1 ⟨rfl, hb⟩
  have T1 := Lib.hid (T0.out.step hb)
  have L1 := Lib.hid (HL.out.step hb)
  have hlb1 : lb < w1.heap.size := Nat.lt_of_lt_of_le hlb hb.size
  clear hb
  have HX2 := Lib.hid (Box7.new w1 ho ((k : Int) + 1) day ⟨#[]⟩ body 0 0 63)
  have T2 := Lib.hid (T1.out.alloc (.cells #[.int .i64 ho, .int .i64 ((k : Int) + 1), .int .i64 day, .string ⟨#[]⟩, .string body, .int .i64 0, .int .i64 0] 63))
  have L2 := Lib.hid (L1.out.step (alloc_below w1 (.cells #[.int .i64 ho, .int .i64 ((k : Int) + 1), .int .i64 day, .string ⟨#[]⟩, .string body, .int .i64 0, .int .i64 0] 63)))
  have hnx : w.heap.size ≤ w1.heap.size := T1.out.bel.size
  obtain ⟨b0, b1, b2, b3, b4, b5, b6⟩ := L2.out.at_ k p HPK.out
  go_wp2_with fail
  clear b0 b1 b2 b3 b4 b5 b6
  generalize w1.alloc (.cells #[.int .i64 ho, .int .i64 ((k : Int) + 1), .int .i64 day, .string ⟨#[]⟩, .string body, .int .i64 0, .int .i64 0] 63) = w2 at *
  generalize w1.heap.size = nx at *
  refine (HD.out _ T2.out.tabs).mono ?_
  rintro e w3 ⟨rfl, hb⟩
  have HX3 := Lib.hid (HX2.out.step hb)
  have T3 := Lib.hid (T2.out.step hb)
  have L3 := Lib.hid (L2.out.step hb)
  clear hb HX2 T2 L2
  obtain ⟨x0, x1, x2, x3, x4, x5, x6⟩ := HX3.out.at_
  have z3 := (HX3.out.free 3 (by omega)).2
  rw [Nat.zero_add] at z3
  have HX4 := Lib.hid (HX3.out.set3 dg)
  obtain ⟨y0, y1, y2, y3, y4, y5, y6⟩ := HX4.out.at_
  have T4 := Lib.hid (T3.out.set HTT.out (a := ⟨nx, 3, none⟩) hnx (.string dg))
  have L4 := Lib.hid (HL.out.step T4.out.bel)
  go_wp2_with fail
  clear x0 x1 x2 x3 x4 x5 x6 y0 y1 y2 y3 y4 y5 y6 z3 HX3 T3 L3
  generalize w3.setCell ⟨nx, 3, none⟩ (.string dg) = w4 at *
  refine (HTX.out _ T4.out.tabs).mono ?_
  rintro e w5 ⟨rfl, hb⟩
  have HX5 := Lib.hid (HX4.out.step hb)
  have T5 := Lib.hid (T4.out.step hb)
  clear hb HX4 T4 L4
  go_wp2_with fail
  refine (HS.out _ T5.out.tabs).mono ?_
  rintro e w6 ⟨rfl, hb⟩
  have HX6 := Lib.hid (HX5.out.step hb)
  have T6 := Lib.hid (T5.out.step hb)
  clear hb HX5 T5
  obtain ⟨x0, x1, x2, x3, x4, x5, x6⟩ := HX6.out.at_
  have z5 := (HX6.out.free 5 (by omega)).2
  have z6 := (HX6.out.free 6 (by omega)).2
  rw [Nat.zero_add] at z5 z6
  have HX7 := Lib.hid (HX6.out.set56 R S)
  have T7 := Lib.hid ((T6.out.set HTT.out (a := ⟨nx, 5, none⟩) hnx (.int .i64 R)).set HTT.out (a := ⟨nx, 6, none⟩) hnx (.int .i64 S))
  have L7a := Lib.hid ((HL.out.step T7.out.bel).step (alloc_below ((w6.setCell ⟨nx, 5, none⟩ (.int .i64 R)).setCell ⟨nx, 6, none⟩ (.int .i64 S)) (.cells #[] 63)))
  have hsrc := L7a.out.src (c := c)
  rw [HLEN.out] at hsrc
  have HSRC := Lib.hid hsrc
  have hs67 : ((w6.setCell ⟨nx, 5, none⟩ (.int .i64 R)).setCell ⟨nx, 6, none⟩ (.int .i64 S)).heap.size = w6.heap.size := by simp [World.setCell]
  clear hsrc L7a HX6 T6
  go_wp2_with (first
    | (at_builtin; refine app_ent rfl _ _ rfl w6.heap.size _ 0 [] rfl (own_empty' ((w6.setCell ⟨nx, 5, none⟩ (.int .i64 R)).setCell ⟨nx, 6, none⟩ (.int .i64 S)) _ _ hs67.symm (Nat.le_of_eq hs67.symm) 63) _ (k + 1) (cellsE l) rfl HSRC.out (by omega) (by simp [World.setCell]) ?_; intro vx w8 hown hgrow _; rw [Nat.zero_add, List.nil_append] at hown; have B8 : Below ((w6.setCell ⟨nx, 5, none⟩ (.int .i64 R)).setCell ⟨nx, 6, none⟩ (.int .i64 S)).heap.size ((w6.setCell ⟨nx, 5, none⟩ (.int .i64 R)).setCell ⟨nx, 6, none⟩ (.int .i64 S)) w8 := ((Below.refl ((w6.setCell ⟨nx, 5, none⟩ (.int .i64 R)).setCell ⟨nx, 6, none⟩ (.int .i64 S)).heap.size ((w6.setCell ⟨nx, 5, none⟩ (.int .i64 R)).setCell ⟨nx, 6, none⟩ (.int .i64 S))).alloc (Nat.le_refl _) (.cells #[] 63)).grown hgrow (by simp) (fun k hk => by cases hk; exact Nat.le_of_eq hs67); have T8 := Lib.hid (T7.out.step B8); have HX8 := Lib.hid (HX7.out.step B8); have HO := Lib.hid hown; have HB8 := Lib.hid B8; obtain ⟨ax, cx, hvx, _, _⟩ := hown.shape; subst hvx; clear hown hgrow B8 x0 x1 x2 x3 x4 x5 x6 z5 z6; obtain ⟨x0, x1, x2, x3, x4, x5, x6⟩ := HX8.out.at_)
    | (at_builtin; refine app_ent rfl _ _ rfl w6.heap.size _ (k + 1) (cellsE l) rfl (HO.out.alloc (.cells #[.int .i64 ho, .int .i64 ((k : Int) + 1), .int .i64 day, .string dg, .string body, .int .i64 R, .int .i64 S] 63)) _ 1 (Ent.cells (⟨ho, ((k : Int) + 1), day, dg, body, R, S⟩ : Ent)) rfl (src_range (rangeAt_new w8 _ 63) rfl (cellsE_one [(⟨ho, ((k : Int) + 1), day, dg, body, R, S⟩ : Ent)])) (by omega) (by have := HB8.out.size; rw [hs67] at this; simp; omega) ?_; intro v3 w9 hown3 hgrow3 _; have hlt3 := HO.out.lt; have B9 : Below ((w6.setCell ⟨nx, 5, none⟩ (.int .i64 R)).setCell ⟨nx, 6, none⟩ (.int .i64 S)).heap.size w8 w9 := ((Below.refl ((w6.setCell ⟨nx, 5, none⟩ (.int .i64 R)).setCell ⟨nx, 6, none⟩ (.int .i64 S)).heap.size w8).alloc HB8.out.size (.cells #[.int .i64 ho, .int .i64 ((k : Int) + 1), .int .i64 day, .string dg, .string body, .int .i64 R, .int .i64 S] 63)).grown hgrow3 (by have := HB8.out.size; simp at this ⊢; omega) (fun g hg => Nat.le_trans (Nat.le_of_eq hs67) (hlt3 g hg).1); have T9 := Lib.hid (Trk.mk (HTT.out.below (T7.out.bel.trans ((HB8.out.trans B9).mono T7.out.bel.size)) (Nat.le_refl _)) (T7.out.bel.trans ((HB8.out.trans B9).mono T7.out.bel.size))); have HOW := Lib.hid hown3; obtain ⟨av, cv, hv3, _, _⟩ := hown3.shape; subst hv3; clear hown3 hgrow3 hlt3 B9 x0 x1 x2 x3 x4 x5 x6))
  have hO : Own w9 w6.heap.size 7 (.slice av ((k + 1) + 1) cv) (l ++ [(⟨ho, ((k : Int) + 1), day, dg, body, R, S⟩ : Ent)]).length (cellsE (l ++ [(⟨ho, ((k : Int) + 1), day, dg, body, R, S⟩ : Ent)])) := by
    have e1 : (l ++ [(⟨ho, ((k : Int) + 1), day, dg, body, R, S⟩ : Ent)]).length = (k + 1) + 1 := by rw [List.length_append, HLEN.out]; simp
    rw [e1, cellsE_append]
    exact HOW.out
  obtain ⟨ao2, cap2, lb2, lo2, hv2, hE, hcp⟩ := hO.ents
  have HCP := Lib.hid hcp
  have HEE := Lib.hid hE
  have hll : (l ++ [(⟨ho, ((k : Int) + 1), day, dg, body, R, S⟩ : Ent)]).length = (k + 1) + 1 := by rw [List.length_append, HLEN.out]; simp
  rw [hll] at hv2
  injection hv2 with hv4 hv5 hv6
  subst hv4 hv6
  clear hO hE hcp
  have hw := HW.out _ _ lb2 lo2 cv HEE.out T9.out.tabs
  rw [hll] at hw
  refine hw.mono ?_
  rintro e w10 ⟨rfl, hb⟩
  have T10 := Lib.hid (T9.out.step hb)
  have HE10 := Lib.hid (HEE.out.step hb)
  clear hb
  go_wp2_with fail
  go_ret2
  exact .inl ⟨by simpa using e1, rfl, T10.out.bel⟩
set_option maxHeartbeats 1000000 in
set_option maxRecDepth 100000 in
theorem RApp_pub (v : Value) (ho x day : Int) (body : ByteArray) (w : World) (hP : ∀ w, Calls Tryd.prog 76 #[.int .i64 x] w fun e w' => e = .returned (.tuple #[.int .i64 0, .int .i64 1]) ∧ w = w') :
    Calls Tryd.prog 41 #[v, .int .i64 ho, .int .i64 x, .int .i64 day, .string body] w fun e w' => e = .returned (.tuple #[.slice none 0 0, .int .i64 1]) ∧ Below w.heap.size w w' := by
  have HP := Lib.hid hP
  clear hP
  go_enter Tryd.func41, Tryd.ntmps41
  go_wp2_with fail
  refine (HP.out _).mono ?_
  rintro e wx ⟨rfl, rfl⟩
  go_wp2_with fail
  go_ret2
  exact ⟨rfl, Below.refl _ _⟩
set_option maxHeartbeats 1000000 in
set_option maxRecDepth 100000 in
theorem RApp_chk (v : Value) (ho x y day c at' : Int) (body : ByteArray) (w : World) (hc : (c == 0) = false) (hP : ∀ w, Calls Tryd.prog 76 #[.int .i64 x] w fun e w' => e = .returned (.tuple #[.int .i64 y, .int .i64 0]) ∧ w = w')
    (hC : Calls Tryd.prog 39 #[v, .int .i64 ho, .int .i64 y] w fun e w' => e = .returned (.tuple #[.int .i64 c, .int .i64 at']) ∧ Below w.heap.size w w') :
    Calls Tryd.prog 41 #[v, .int .i64 ho, .int .i64 x, .int .i64 day, .string body] w fun e w' => e = .returned (.tuple #[.slice none 0 0, .int .i64 c]) ∧ Below w.heap.size w w' := by
  have hc' : (c != 0) = true := by simp only [bne, hc]; rfl
  have HP := Lib.hid hP
  have HC := Lib.hid hC
  clear hP hC
  go_enter Tryd.func41, Tryd.ntmps41
  go_wp2_with fail
  refine (HP.out _).mono ?_
  rintro e wx ⟨rfl, rfl⟩
  go_wp2_with fail
  refine HC.out.mono ?_
  rintro e w1 ⟨rfl, hb⟩
  have HB := Lib.hid hb
  clear hb
  go_wp2_with fail
  go_ret2
  exact ⟨rfl, HB.out⟩
theorem wrong_new {ho y : Int} {l : List Ent} {ne : Ent} (hh : ne.house = ho) (hq : ne.seq = (l.length : Int)) (hp : ne.prev = lastDig l) (hs : ne.sgd y = true) :
    wrongE ho y l.length (pDay 0 (l ++ [ne]) l.length) (pDig ⟨#[]⟩ (l ++ [ne]) l.length) ne = if ¬ ne.body.size ≤ 2000 then 3 else if ne.day < 0 ∨ 2000 < ne.day then 1 else if ne.day < lastDay l then 15 else 0 := by
  have h1 : pDig ⟨#[]⟩ (l ++ [ne]) l.length = lastDig l := by
    rcases List.eq_nil_or_concat l with rfl | ⟨t, e, rfl⟩
    · rfl
    · rw [List.concat_eq_append, lastDig_snoc, List.length_append]
      exact pDig_at _ _ _ _ (by simp)
  have h2 : pDay 0 (l ++ [ne]) l.length = lastDay l := by
    rcases List.eq_nil_or_concat l with rfl | ⟨t, e, rfl⟩
    · rfl
    · rw [List.concat_eq_append, lastDay_snoc, List.length_append]
      exact pDay_at _ _ _ _ (by simp)
  rw [h1, h2]
  unfold wrongE
  by_cases k1 : ne.body.size ≤ 2000
  · rw [if_neg (not_not_intro k1), if_neg (not_not_intro k1)]
    by_cases k2 : ne.day < 0 ∨ 2000 < ne.day
    · rw [if_pos (by omega), if_pos k2]
    · rw [if_neg (by omega), if_neg k2]
      by_cases k3 : ne.day < lastDay l
      · rw [if_pos (by omega), if_pos k3]
      · rw [if_neg (by omega), if_neg k3, if_neg (by simp [hp, hs])]
  · rw [if_pos k1, if_pos k1]
theorem newEnt_ok {ho day : Int} {x : Nat} {body : ByteArray} {q : Int} {pv : ByteArray} (h1 : I64 ho) (h2 : I64 q) (h3 : I64 day) (h4 : pv.size ≤ 40000) (h5 : body.size ≤ 40000) : (newEnt ho x day body q pv).Ok :=
  ⟨h1, h2, h3, by have := pw_lt 7 (kay x (txtE ho q day pv body)); exact ⟨by show _ ≤ ((pw 7 _ : Nat) : Int); omega, by show ((pw 7 _ : Nat) : Int) ≤ _; omega⟩, by
    have : sgS x (txtE ho q day pv body) < 2147483646 := by unfold sgS; omega
    exact ⟨by show _ ≤ ((sgS x _ : Nat) : Int); omega, by show ((sgS x _ : Nat) : Int) ≤ _; omega⟩, h4, h5⟩
/-- The reference's Append, at every list, house, secret, day and body. -/
theorem RAppend_any (l : List Ent) (ao : Option Addr) (lb lo c : Nat) (ho x day : Int) (body : ByteArray) (w : World) (hl : l.length ≤ 99) (hok : ∀ e ∈ l, e.Ok) (hat : EntsAt w ao lb lo l) (ht : Tabs w) (hbs : body.size ≤ 40000) (hx : I64 x) (hday : I64 day) :
    Calls Tryd.prog 41 #[.slice ao l.length c, .int .i64 ho, .int .i64 x, .int .i64 day, .string body] w
      (AppRes w (appC ho x day body l) (l ++ [newEnt ho x.toNat day body l.length (lastDig l)])) := by
  rw [appC_eq]
  by_cases h1 : x < 1 ∨ 2147483646 ≤ x
  · rw [if_pos h1]
    exact (RApp_pub _ ho x day body w (fun w => RPublic_bad x w (by omega))).mono fun e w' h => .inl ⟨by decide, h⟩
  rw [if_neg h1]
  obtain ⟨X, rfl⟩ : ∃ X : Nat, x = X := ⟨x.toNat, by omega⟩
  have hP := fun w => RPublic_ok X w (by omega) (by omega)
  rw [Int.toNat_natCast]
  have hC := fun w h ht => RCheck_any ho (pw 7 X : Nat) l ao lb lo c w (by omega) hok h ht
  have hh := chk_house (ho := ho) (y := (pw 7 X : Nat)) (l := l)
  have hvs : ∀ t, verB (pw 7 X : Nat) (pw 7 (kay X t) : Nat) (sgS X t : Nat) t = true := fun t => ver_sign X t
  generalize pw 7 X = y at *
  generalize hcv : chkE ho y l = cv at *
  obtain ⟨c1, c2⟩ := cv
  by_cases h2 : c1 ≠ 0
  · rw [if_pos h2]
    exact (RApp_chk _ ho X y day c1 c2 body w (by simpa using h2) hP (hC w hat ht)).mono fun e w' h => .inl ⟨h2, h⟩
  rw [if_neg h2]
  obtain rfl : c1 = 0 := Classical.not_not.1 h2
  obtain ⟨g1, g2, _, _⟩ := hh rfl
  have hho : I64 ho := ⟨by omega, by omega⟩
  have hln : I64 (l.length : Int) := ⟨by omega, by omega⟩
  have nok := newEnt_ok (x := X) (body := body) hho hln hday (lastDig_size l) hbs
  have hT := fun w ht => RText_raw ho l.length day (lastDig l) body 0 0 w hho hln hday (lastDig_size l) hbs ht
  have hS := fun w (_ : Tabs w) => RSign_ok X (txtE ho l.length day (lastDig l) body) w (by omega) (by omega) (Nat.le_trans (txtE_size _ _ _ _ _ hho hln hday (lastDig_size l) hbs) (by decide))
  have hsg : (newEnt ho X day body l.length (lastDig l)).sgd y = true := by
    show sgdE y _ _ _ _ _ _ _ = true
    rw [sgdE_eq]; exact hvs _
  have hW := fun w ao' lb' lo' c' (h : EntsAt w ao' lb' lo' (l ++ [newEnt ho X day body l.length (lastDig l)])) ht => RWrong_any (l ++ [newEnt ho X day body l.length (lastDig l)]) ao' lb' lo' c' l.length ho y (newEnt ho X day body l.length (lastDig l)) w h ht (by simp; omega) (by simp) (fun e he => by
    rcases List.mem_append.1 he with he | he
    · exact hok e he
    · rw [List.mem_singleton.1 he]; exact nok)
  have e0 := wrong_new (ho := ho) (y := y) (l := l) (ne := newEnt ho X day body l.length (lastDig l)) rfl rfl rfl hsg
  rw [e0] at hW
  have e1 : (newEnt ho X day body l.length (lastDig l)).body = body := rfl
  have e2 : (newEnt ho X day body l.length (lastDig l)).day = day := rfl
  rw [e1, e2] at hW
  generalize hv : (if ¬ body.size ≤ 2000 then (3 : Int) else if day < 0 ∨ 2000 < day then 1 else if day < lastDay l then 15 else 0) = v at *
  rcases List.eq_nil_or_concat l with rfl | ⟨t, e, rfl⟩
  · by_cases hz : (v == 0) = true
    · exact RApp_e_ok [] ao 0 0 c ho X y day c2 body _ _ _ v w rfl ⟨fun h => by simp at h, fun i e he => by simp at he⟩ ht hP (fun w _ ht => hC w ⟨fun h => by simp at h, fun i e he => by simp at he⟩ ht) hT hS hW hz
    · exact RApp_e_bad [] ao 0 0 c ho X y day c2 body _ _ _ v w rfl ⟨fun h => by simp at h, fun i e he => by simp at he⟩ ht hP (fun w _ ht => hC w ⟨fun h => by simp at h, fun i e he => by simp at he⟩ ht) hT hS hW (by simpa using hz)
  · rw [List.concat_eq_append] at *
    have hlen : (t ++ [e]).length = t.length + 1 := by simp
    have hD := fun w ht => RDigest_ent e w (hok e (by simp)) ht
    rw [hlen] at hC hl hT hS hW ⊢
    rw [lastDig_snoc] at hT hS hW ⊢
    by_cases hz : (v == 0) = true
    · exact RApp_n_ok t.length e e.dig (t ++ [e]) ao lb lo c ho X y day c2 body _ _ _ v w hlen (by omega) (by simp) hat ht hP hC hD hT hS hW hz
    · exact RApp_n_bad t.length e e.dig (t ++ [e]) ao lb lo c ho X y day c2 body _ _ _ v w hlen (by omega) (by simp) hat ht hP hC hD hT hS hW (by simpa using hz)
end Go.Proofs.YtpdbcahiipbhnaaDoor
