/- Layer 31: chain.link, chain.signed. -/
import Derived.Test.YtpdbcahiipbhnaaDoorM2
namespace Go.Proofs.YtpdbcahiipbhnaaDoor
open Go.RowKit

/-- What holds of every world behind a beginning: the tables; old memory is as it was. -/
structure Trk (w0 w : World) : Prop where
  tabs : Tabs w
  bel : Below w0.heap.size w0 w
theorem Trk.step {w0 w w' : World} (h : Trk w0 w) (hb : Below w.heap.size w w') : Trk w0 w' := ⟨h.tabs.below hb (Nat.le_refl _), h.bel.trans (hb.mono h.bel.size)⟩
theorem Trk.alloc {w0 w : World} (h : Trk w0 w) (o : Obj) : Trk w0 (w.alloc o) := h.step ((Below.refl _ _).alloc (Nat.le_refl _) o)
theorem Trk.start {w : World} (h : Tabs w) : Trk w w := ⟨h, Below.refl _ _⟩
theorem drewN_below (w : World) (m : Nat) : Below w.heap.size w (w.drewN m) := ⟨rfl, rfl, rfl, Nat.le_refl _, fun _ _ => rfl⟩
theorem alloc_below (w : World) (o : Obj) : Below w.heap.size w (w.alloc o) := (Below.refl _ _).alloc (Nat.le_refl _) o
theorem alloc_drew_below (w : World) (o : Obj) : Below w.heap.size w (w.alloc o).drew := ((Below.refl _ _).alloc (Nat.le_refl _) o).drew
theorem keep_ent {w0 w w' : World} {n0 : Nat} {h q d : Int} {p b : ByteArray} {r s : Int} (l0 : n0 < w0.heap.size) (hb : Below w.heap.size w w') (H : w.cell? ⟨n0, 0, none⟩ = some (.int .i64 h) ∧ w.cell? ⟨n0, 1, none⟩ = some (.int .i64 q) ∧ w.cell? ⟨n0, 2, none⟩ = some (.int .i64 d) ∧ w.cell? ⟨n0, 3, none⟩ = some (.string p) ∧ w.cell? ⟨n0, 4, none⟩ = some (.string b) ∧ w.cell? ⟨n0, 5, none⟩ = some (.int .i64 r) ∧ w.cell? ⟨n0, 6, none⟩ = some (.int .i64 s) ∧ Trk w0 w) : w'.cell? ⟨n0, 0, none⟩ = some (.int .i64 h) ∧ w'.cell? ⟨n0, 1, none⟩ = some (.int .i64 q) ∧ w'.cell? ⟨n0, 2, none⟩ = some (.int .i64 d) ∧ w'.cell? ⟨n0, 3, none⟩ = some (.string p) ∧ w'.cell? ⟨n0, 4, none⟩ = some (.string b) ∧ w'.cell? ⟨n0, 5, none⟩ = some (.int .i64 r) ∧ w'.cell? ⟨n0, 6, none⟩ = some (.int .i64 s) ∧ Trk w0 w' :=
  ⟨(hb.cell (p := ⟨n0, 0, none⟩) (Nat.lt_of_lt_of_le l0 H.2.2.2.2.2.2.2.bel.size)).trans H.1, (hb.cell (p := ⟨n0, 1, none⟩) (Nat.lt_of_lt_of_le l0 H.2.2.2.2.2.2.2.bel.size)).trans H.2.1, (hb.cell (p := ⟨n0, 2, none⟩) (Nat.lt_of_lt_of_le l0 H.2.2.2.2.2.2.2.bel.size)).trans H.2.2.1, (hb.cell (p := ⟨n0, 3, none⟩) (Nat.lt_of_lt_of_le l0 H.2.2.2.2.2.2.2.bel.size)).trans H.2.2.2.1, (hb.cell (p := ⟨n0, 4, none⟩) (Nat.lt_of_lt_of_le l0 H.2.2.2.2.2.2.2.bel.size)).trans H.2.2.2.2.1, (hb.cell (p := ⟨n0, 5, none⟩) (Nat.lt_of_lt_of_le l0 H.2.2.2.2.2.2.2.bel.size)).trans H.2.2.2.2.2.1, (hb.cell (p := ⟨n0, 6, none⟩) (Nat.lt_of_lt_of_le l0 H.2.2.2.2.2.2.2.bel.size)).trans H.2.2.2.2.2.2.1, H.2.2.2.2.2.2.2.step hb⟩
theorem held_ent {w0 w : World} {n0 : Nat} {h q d : Int} {p b : ByteArray} {r s : Int} (H : w.cell? ⟨n0, 0, none⟩ = some (.int .i64 h) ∧ w.cell? ⟨n0, 1, none⟩ = some (.int .i64 q) ∧ w.cell? ⟨n0, 2, none⟩ = some (.int .i64 d) ∧ w.cell? ⟨n0, 3, none⟩ = some (.string p) ∧ w.cell? ⟨n0, 4, none⟩ = some (.string b) ∧ w.cell? ⟨n0, 5, none⟩ = some (.int .i64 r) ∧ w.cell? ⟨n0, 6, none⟩ = some (.int .i64 s) ∧ Trk w0 w) : Trk w0 w := H.2.2.2.2.2.2.2
theorem ini_ent {w0 w : World} {n0 : Nat} {h q d : Int} {p b : ByteArray} {r s : Int} (h0 : w.cell? ⟨n0, 0, none⟩ = some (.int .i64 h)) (h1 : w.cell? ⟨n0, 1, none⟩ = some (.int .i64 q)) (h2 : w.cell? ⟨n0, 2, none⟩ = some (.int .i64 d)) (h3 : w.cell? ⟨n0, 3, none⟩ = some (.string p)) (h4 : w.cell? ⟨n0, 4, none⟩ = some (.string b)) (h5 : w.cell? ⟨n0, 5, none⟩ = some (.int .i64 r)) (h6 : w.cell? ⟨n0, 6, none⟩ = some (.int .i64 s)) (ht : Trk w0 w) : w.cell? ⟨n0, 0, none⟩ = some (.int .i64 h) ∧ w.cell? ⟨n0, 1, none⟩ = some (.int .i64 q) ∧ w.cell? ⟨n0, 2, none⟩ = some (.int .i64 d) ∧ w.cell? ⟨n0, 3, none⟩ = some (.string p) ∧ w.cell? ⟨n0, 4, none⟩ = some (.string b) ∧ w.cell? ⟨n0, 5, none⟩ = some (.int .i64 r) ∧ w.cell? ⟨n0, 6, none⟩ = some (.int .i64 s) ∧ Trk w0 w :=
  ⟨h0, h1, h2, h3, h4, h5, h6, ht⟩

theorem Sum_is (t u : ByteArray) (w : World) (hs : t.size ≤ 1000000) (h : hexB t.data.toList = u) (ht : Tabs w) :
    Calls Tryd.prog 50 #[.string t] w fun e w' => e = .returned (.string u) ∧ Below w.heap.size w w' := h ▸ Sum_hex t w hs ht
/-- The text whose digest links an entry. -/
@[irreducible] def linkT (h q d : Int) (p b : ByteArray) (r s : Int) : ByteArray := wordsB (txtE h q d p b) [r, s]
theorem linkT_eq (h q d : Int) (p b : ByteArray) (r s : Int) : linkT h q d p b r s = wordsB (txtE h q d p b) [r, s] := by unfold linkT; rfl
/-- The digest of an entry. -/
@[irreducible] def digE (h q d : Int) (p b : ByteArray) (r s : Int) : ByteArray := hexB (linkT h q d p b r s).data.toList
theorem digE_eq (h q d : Int) (p b : ByteArray) (r s : Int) : digE h q d p b r s = hexB (linkT h q d p b r s).data.toList := by unfold digE; rfl
theorem digE_size (h q d : Int) (p b : ByteArray) (r s : Int) : (digE h q d p b r s).size = 64 := by rw [digE_eq, hexB_size]
theorem txtE_pos (h q d : Int) (p b : ByteArray) : 0 < (txtE h q d p b).size := by
  rw [txtE_eq, ByteArray.size_append, ByteArray.size_append, ByteArray.size_append]
  have h2 : (⟨#[32]⟩ : ByteArray).size = 1 := rfl
  omega
theorem linkT_size (h q d : Int) (p b : ByteArray) (r s : Int) (hh : I64 h) (hq : I64 q) (hd : I64 d) (hr : I64 r) (hs : I64 s) (hp : p.size ≤ 40000) (hb : b.size ≤ 40000) : (linkT h q d p b r s).size ≤ 1000000 := by
  have h1 := txtE_size h q d p b hh hq hd hp hb
  have h2 := wordsB_size (txtE h q d p b) [r, s] (fun x hx => by
    simp only [List.mem_cons, List.not_mem_nil, or_false] at hx
    rcases hx with rfl | rfl <;> assumption)
  rw [linkT_eq]
  simp only [List.length_cons, List.length_nil] at h2
  omega

set_option maxHeartbeats 2000000 in
set_option maxRecDepth 100000 in
theorem link_raw (h q d : Int) (p b : ByteArray) (r s : Int) (w : World) (hh : I64 h) (hq : I64 q) (hd : I64 d) (hr : I64 r) (hs : I64 s) (hp : p.size ≤ 40000) (hb : b.size ≤ 40000) (ht : Tabs w) :
    Calls Tryd.prog 73 #[.agg #[.int .i64 h, .int .i64 q, .int .i64 d, .string p, .string b, .int .i64 r, .int .i64 s]] w fun e w' => e = .returned (.string (digE h q d p b r s)) ∧ Below w.heap.size w w' := by
  have HX := Lib.hid (fun w ht => Text_raw h q d p b r s w hh hq hd hp hb ht)
  have ts := txtE_size h q d p b hh hq hd hp hb
  have tp := txtE_pos h q d p b
  have hW := fun bl w hbl c0 c1 ht => words2 (txtE h q d p b) r s bl w tp (by omega) hr hs hbl c0 c1 ht
  rw [← linkT_eq] at hW
  have HW := Lib.hid hW
  have HS := Lib.hid (fun w ht => Sum_is (linkT h q d p b r s) (digE h q d p b r s) w (linkT_size h q d p b r s hh hq hd hr hs hp hb) (digE_eq h q d p b r s).symm ht)
  generalize linkT h q d p b r s = lt at *
  generalize digE h q d p b r s = dg at *
  generalize txtE h q d p b = t at *
  clear hW ts tp hh hq hd hr hs hp hb
  have HB0 := Lib.hid (alloc_below w (.cells #[.int .i64 h, .int .i64 q, .int .i64 d, .string p, .string b, .int .i64 r, .int .i64 s] 63))
  have HT0 := Lib.hid (Trk.start (ht.alloc (.cells #[.int .i64 h, .int .i64 q, .int .i64 d, .string p, .string b, .int .i64 r, .int .i64 s] 63)))
  have H7 := Lib.hid (new7 w h q d p b r s 63)
  have hs0 : w.heap.size < (w.alloc (.cells #[.int .i64 h, .int .i64 q, .int .i64 d, .string p, .string b, .int .i64 r, .int .i64 s] 63)).heap.size := by simp
  clear ht
  go_enter Tryd.func73, Tryd.ntmps73
  go_wp2_with fail
  generalize w.alloc (.cells #[.int .i64 h, .int .i64 q, .int .i64 d, .string p, .string b, .int .i64 r, .int .i64 s] 63) = w0 at *
  generalize hn0 : w.heap.size = n0 at *
  have HN0 := Lib.hid hn0
  clear hn0
  obtain ⟨c0, c1, c2, c3, c4, c5, c6⟩ := H7.out
  go_region_held_law (fun w' => w'.cell? ⟨n0, 0, none⟩ = some (.int .i64 h) ∧ w'.cell? ⟨n0, 1, none⟩ = some (.int .i64 q) ∧ w'.cell? ⟨n0, 2, none⟩ = some (.int .i64 d) ∧ w'.cell? ⟨n0, 3, none⟩ = some (.string p) ∧ w'.cell? ⟨n0, 4, none⟩ = some (.string b) ∧ w'.cell? ⟨n0, 5, none⟩ = some (.int .i64 r) ∧ w'.cell? ⟨n0, 6, none⟩ = some (.int .i64 s) ∧ Trk w0 w') (first | (go_keep; done) | exact keep_ent hs0 hba (by assumption) | exact keep_ent hs0 hbb (by assumption) | exact keep_ent hs0 hbc (by assumption) | exact keep_ent hs0 (drewN_below _ 1) (by assumption) | exact keep_ent hs0 (alloc_below _ _) (by assumption) | exact keep_ent hs0 (alloc_drew_below _ _) (by assumption) | exact keep_ent hs0 (drewN_below _ 1) (ini_ent c0 c1 c2 c3 c4 c5 c6 HT0.out) | exact keep_ent hs0 (alloc_below _ _) (ini_ent c0 c1 c2 c3 c4 c5 c6 HT0.out) | exact keep_ent hs0 (alloc_drew_below _ _) (ini_ent c0 c1 c2 c3 c4 c5 c6 HT0.out) | exact (ini_ent c0 c1 c2 c3 c4 c5 c6 HT0.out)) (first | (go_at_call 43; refine (HX.out _ (by exact (held_ent (by assumption)).tabs)).mono ?_; rintro e wa ⟨rfl, hba⟩) | (go_at_call 78; refine (HW.out _ _ (by first | (simp; done) | exact Nat.lt_of_lt_of_le (by simp) hba.size) (by first | exact new0 rfl rfl | exact (hba.cell (by simp)).trans (new0 rfl rfl)) (by first | exact new0 rfl rfl | exact (hba.cell (by simp)).trans (new0 rfl rfl)) (by exact (held_ent (by assumption)).tabs)).mono ?_; rintro e wb ⟨rfl, hbb⟩) | (go_at_call 50; refine (HS.out _ (by exact (held_ent (by assumption)).tabs)).mono ?_; rintro e wc ⟨rfl, hbc⟩))
  all_goals
    have HF := Lib.hid (held_ent (by assumption))
    go_wp2_with fail
    go_ret
    exact ⟨rfl, by rw [HN0.out]; exact HB0.out.trans (HF.out.bel.mono (Nat.le_of_lt hs0))⟩
/-- Whether an entry is signed with a key. -/
@[irreducible] def sgdE (y : Int) (h q d : Int) (p b : ByteArray) (r s : Int) : Bool := verB y r s (txtE h q d p b)
theorem sgdE_eq (y h q d : Int) (p b : ByteArray) (r s : Int) : sgdE y h q d p b r s = verB y r s (txtE h q d p b) := by unfold sgdE; rfl
set_option maxHeartbeats 2000000 in
set_option maxRecDepth 100000 in
theorem signed_raw (y h q d : Int) (p b : ByteArray) (r s : Int) (w : World) (hh : I64 h) (hq : I64 q) (hd : I64 d) (hp : p.size ≤ 40000) (hb : b.size ≤ 40000) (ht : Tabs w) :
    Calls Tryd.prog 72 #[.agg #[.int .i64 h, .int .i64 q, .int .i64 d, .string p, .string b, .int .i64 r, .int .i64 s], .int .i64 y] w fun e w' => e = .returned (.bool (sgdE y h q d p b r s)) ∧ Below w.heap.size w w' := by
  have HX := Lib.hid (fun w ht => Text_raw h q d p b r s w hh hq hd hp hb ht)
  have ts := txtE_size h q d p b hh hq hd hp hb
  have hV := fun w ht => Verify_any y r s (txtE h q d p b) w (by omega) ht
  rw [← sgdE_eq] at hV
  have HV := Lib.hid hV
  generalize sgdE y h q d p b r s = v at *
  generalize txtE h q d p b = t at *
  clear hV ts hh hq hd hp hb
  have HB0 := Lib.hid (alloc_below w (.cells #[.int .i64 h, .int .i64 q, .int .i64 d, .string p, .string b, .int .i64 r, .int .i64 s] 63))
  have HT0 := Lib.hid (Trk.start (ht.alloc (.cells #[.int .i64 h, .int .i64 q, .int .i64 d, .string p, .string b, .int .i64 r, .int .i64 s] 63)))
  have H7 := Lib.hid (new7 w h q d p b r s 63)
  have hs0 : w.heap.size < (w.alloc (.cells #[.int .i64 h, .int .i64 q, .int .i64 d, .string p, .string b, .int .i64 r, .int .i64 s] 63)).heap.size := by simp
  clear ht
  go_enter Tryd.func72, Tryd.ntmps72
  go_wp2_with fail
  generalize w.alloc (.cells #[.int .i64 h, .int .i64 q, .int .i64 d, .string p, .string b, .int .i64 r, .int .i64 s] 63) = w0 at *
  generalize hn0 : w.heap.size = n0 at *
  have HN0 := Lib.hid hn0
  clear hn0
  obtain ⟨c0, c1, c2, c3, c4, c5, c6⟩ := H7.out
  go_region_held_law (fun w' => w'.cell? ⟨n0, 0, none⟩ = some (.int .i64 h) ∧ w'.cell? ⟨n0, 1, none⟩ = some (.int .i64 q) ∧ w'.cell? ⟨n0, 2, none⟩ = some (.int .i64 d) ∧ w'.cell? ⟨n0, 3, none⟩ = some (.string p) ∧ w'.cell? ⟨n0, 4, none⟩ = some (.string b) ∧ w'.cell? ⟨n0, 5, none⟩ = some (.int .i64 r) ∧ w'.cell? ⟨n0, 6, none⟩ = some (.int .i64 s) ∧ Trk w0 w') (first | (go_keep; done) | exact keep_ent hs0 hba (by assumption) | exact keep_ent hs0 hbb (by assumption) | exact keep_ent hs0 (drewN_below _ 1) (by assumption) | exact keep_ent hs0 (alloc_below _ _) (by assumption) | exact keep_ent hs0 (alloc_drew_below _ _) (by assumption) | exact keep_ent hs0 (drewN_below _ 1) (ini_ent c0 c1 c2 c3 c4 c5 c6 HT0.out) | exact keep_ent hs0 (alloc_below _ _) (ini_ent c0 c1 c2 c3 c4 c5 c6 HT0.out) | exact keep_ent hs0 (alloc_drew_below _ _) (ini_ent c0 c1 c2 c3 c4 c5 c6 HT0.out) | exact (ini_ent c0 c1 c2 c3 c4 c5 c6 HT0.out)) (first | (go_at_call 43; refine (HX.out _ (by exact (held_ent (by assumption)).tabs)).mono ?_; rintro e wa ⟨rfl, hba⟩) | (go_at_call 48; refine (HV.out _ (by exact (held_ent (by assumption)).tabs)).mono ?_; rintro e wb ⟨rfl, hbb⟩))
  all_goals
    have HF := Lib.hid (held_ent (by assumption))
    go_wp2_with fail
    go_ret
    exact ⟨rfl, by rw [HN0.out]; exact HB0.out.trans (HF.out.bel.mono (Nat.le_of_lt hs0))⟩
end Go.Proofs.YtpdbcahiipbhnaaDoor
