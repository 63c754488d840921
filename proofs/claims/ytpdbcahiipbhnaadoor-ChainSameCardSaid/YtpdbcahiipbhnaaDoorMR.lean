/- Layer 31: the reference's Text, Digest and Signed. -/
import Derived.Test.YtpdbcahiipbhnaaDoorM5
import Derived.Test.YtpdbcahiipbhnaaDoorMD
import Derived.Test.YtpdbcahiipbhnaaDoorPA
import Derived.Test.YtpdbcahiipbhnaaDoorR3
namespace Go.Proofs.YtpdbcahiipbhnaaDoor
open Go.RowKit

theorem txtR_eq (h q d : Int) (p b : ByteArray) : ⟨#[101, 110, 116, 114, 121, 32]⟩ ++ numB h ++ ⟨#[32]⟩ ++ numB q ++ ⟨#[32]⟩ ++ numB d ++ ⟨#[32]⟩ ++ numB p.size ++ ⟨#[32]⟩ ++ p ++ b = txtE h q d p b := by
  rw [txtE_eq, wordsB_eq]
  apply ByteArray.ext
  simp only [ByteArray.data_append, wordsL, List.flatMap_cons, List.flatMap_nil, numB_eq]
  simp
theorem linkR_eq (h q d : Int) (p b : ByteArray) (r s : Int) : txtE h q d p b ++ ⟨#[32]⟩ ++ numB r ++ ⟨#[32]⟩ ++ numB s = linkT h q d p b r s := by
  rw [linkT_eq, wordsB_eq]
  apply ByteArray.ext
  simp only [ByteArray.data_append, wordsL, List.flatMap_cons, List.flatMap_nil, numB_eq]
  simp
theorem RSum_is (t u : ByteArray) (w : World) (hs : t.size ≤ 1000000) (h : hexB t.data.toList = u) :
    Calls Tryd.prog 56 #[.string t] w fun e w' => e = .returned (.string u) ∧ Below w.heap.size w w' := h ▸ RSum_any t w hs
set_option maxHeartbeats 2000000 in
set_option maxRecDepth 100000 in
theorem RText_raw (h q d : Int) (p b : ByteArray) (r s : Int) (w : World) (hh : I64 h) (hq : I64 q) (hd : I64 d) (hp : p.size ≤ 40000) (hb : b.size ≤ 40000) (ht : Tabs w) :
    Calls Tryd.prog 44 #[.agg #[.int .i64 h, .int .i64 q, .int .i64 d, .string p, .string b, .int .i64 r, .int .i64 s]] w fun e w' => e = .returned (.string (txtE h q d p b)) ∧ Below w.heap.size w w' := by
  have hps : I64 (p.size : Int) := size_I64 _ (by omega)
  have D1 := Lib.hid (fun w (_ : Tabs w) => RDec31_any h w hh)
  have D2 := Lib.hid (fun w (_ : Tabs w) => RDec31_any q w hq)
  have D3 := Lib.hid (fun w (_ : Tabs w) => RDec31_any d w hd)
  have D4 := Lib.hid (fun w (_ : Tabs w) => RDec31_any p.size w hps)
  have HE := Lib.hid (txtR_eq h q d p b)
  have s1 := numB_size h hh
  have s2 := numB_size q hq
  have s3 := numB_size d hd
  have s4 := numB_size p.size hps
  clear hh hq hd hps
  generalize numB h = t1 at *
  generalize numB q = t2 at *
  generalize numB d = t3 at *
  generalize numB p.size = t4 at *
  generalize txtE h q d p b = tt at *
  have z1 : ¬ 9223372036854775807 < 6 + t1.size := by omega
  have z2 : ¬ 9223372036854775807 < 6 + t1.size + 1 := by omega
  have z3 : ¬ 9223372036854775807 < 6 + t1.size + 1 + t2.size := by omega
  have z4 : ¬ 9223372036854775807 < 6 + t1.size + 1 + t2.size + 1 := by omega
  have z5 : ¬ 9223372036854775807 < 6 + t1.size + 1 + t2.size + 1 + t3.size := by omega
  have z6 : ¬ 9223372036854775807 < 6 + t1.size + 1 + t2.size + 1 + t3.size + 1 := by omega
  have z7 : ¬ 9223372036854775807 < 6 + t1.size + 1 + t2.size + 1 + t3.size + 1 + t4.size := by omega
  have z8 : ¬ 9223372036854775807 < 6 + t1.size + 1 + t2.size + 1 + t3.size + 1 + t4.size + 1 := by omega
  have z9 : ¬ 9223372036854775807 < 6 + t1.size + 1 + t2.size + 1 + t3.size + 1 + t4.size + 1 + p.size := by omega
  have z10 : ¬ 9223372036854775807 < 6 + t1.size + 1 + t2.size + 1 + t3.size + 1 + t4.size + 1 + p.size + b.size := by omega
  clear s1 s2 s3 s4 hp hb
  have HB0 := Lib.hid (alloc_below w (.cells #[.int .i64 h, .int .i64 q, .int .i64 d, .string p, .string b, .int .i64 r, .int .i64 s] 63))
  have HT0 := Lib.hid (Trk.start (ht.alloc (.cells #[.int .i64 h, .int .i64 q, .int .i64 d, .string p, .string b, .int .i64 r, .int .i64 s] 63)))
  have H7 := Lib.hid (new7 w h q d p b r s 63)
  have hs0 : w.heap.size < (w.alloc (.cells #[.int .i64 h, .int .i64 q, .int .i64 d, .string p, .string b, .int .i64 r, .int .i64 s] 63)).heap.size := by simp
  clear ht
  go_enter Tryd.func44, Tryd.ntmps44
  go_wp2_with fail
  generalize w.alloc (.cells #[.int .i64 h, .int .i64 q, .int .i64 d, .string p, .string b, .int .i64 r, .int .i64 s] 63) = w0 at *
  generalize hn0 : w.heap.size = n0 at *
  have HN0 := Lib.hid hn0
  clear hn0
  obtain ⟨c0, c1, c2, c3, c4, c5, c6⟩ := H7.out
  have HINI := Lib.hid (ini_ent c0 c1 c2 c3 c4 c5 c6 HT0.out)
  clear c0 c1 c2 c3 c4 c5 c6
  go_region_held_law (fun w' => w'.cell? ⟨n0, 0, none⟩ = some (.int .i64 h) ∧ w'.cell? ⟨n0, 1, none⟩ = some (.int .i64 q) ∧ w'.cell? ⟨n0, 2, none⟩ = some (.int .i64 d) ∧ w'.cell? ⟨n0, 3, none⟩ = some (.string p) ∧ w'.cell? ⟨n0, 4, none⟩ = some (.string b) ∧ w'.cell? ⟨n0, 5, none⟩ = some (.int .i64 r) ∧ w'.cell? ⟨n0, 6, none⟩ = some (.int .i64 s) ∧ Trk w0 w') (first | (with_reducible assumption) | (with_reducible exact HINI.out) | (with_reducible refine keep_ent hs0 hba ?_; with_reducible assumption) | (with_reducible refine keep_ent hs0 hbb ?_; with_reducible assumption) | (with_reducible refine keep_ent hs0 hbc ?_; with_reducible assumption) | (with_reducible refine keep_ent hs0 hbd ?_; with_reducible assumption) | (refine keep_ent hs0 (drewN_below _ 1) ?_; first | (with_reducible assumption) | (with_reducible exact HINI.out))) (first | (go_at_call_of 79 (Value.int IntKind.i64 h); with_reducible refine (D1.out _ ?TT).mono ?_; (case TT => exact (by first | exact (held_ent (by assumption)).tabs | exact HT0.out.tabs | exact HT0.out.tabs.drew)); rintro e wa ⟨rfl, hba⟩) | (go_at_call_of 79 (Value.int IntKind.i64 q); with_reducible refine (D2.out _ ?TT).mono ?_; (case TT => exact (by first | exact (held_ent (by assumption)).tabs | exact HT0.out.tabs | exact HT0.out.tabs.drew)); rintro e wa ⟨rfl, hbb⟩) | (go_at_call_of 79 (Value.int IntKind.i64 d); with_reducible refine (D3.out _ ?TT).mono ?_; (case TT => exact (by first | exact (held_ent (by assumption)).tabs | exact HT0.out.tabs | exact HT0.out.tabs.drew)); rintro e wa ⟨rfl, hbc⟩) | (go_at_call_of 79 (Value.int IntKind.i64 (p.size : Int)); with_reducible refine (D4.out _ ?TT).mono ?_; (case TT => exact (by first | exact (held_ent (by assumption)).tabs | exact HT0.out.tabs | exact HT0.out.tabs.drew)); rintro e wa ⟨rfl, hbd⟩))
  all_goals
    have HF := Lib.hid (held_ent (by assumption))
    go_wp2_with fail
    go_ret
    exact ⟨by rw [← HE.out]; rfl, by rw [HN0.out]; exact HB0.out.trans (HF.out.bel.mono (Nat.le_of_lt hs0))⟩
set_option maxHeartbeats 2000000 in
set_option maxRecDepth 100000 in
theorem RDigest_raw (h q d : Int) (p b : ByteArray) (r s : Int) (w : World) (hh : I64 h) (hq : I64 q) (hd : I64 d) (hr : I64 r) (hs : I64 s) (hp : p.size ≤ 40000) (hb : b.size ≤ 40000) (ht : Tabs w) :
    Calls Tryd.prog 49 #[.agg #[.int .i64 h, .int .i64 q, .int .i64 d, .string p, .string b, .int .i64 r, .int .i64 s]] w fun e w' => e = .returned (.string (digE h q d p b r s)) ∧ Below w.heap.size w w' := by
  have FT := Lib.hid (fun w ht => RText_raw h q d p b r s w hh hq hd hp hb ht)
  have ts := txtE_size h q d p b hh hq hd hp hb
  have D1 := Lib.hid (fun w (_ : Tabs w) => RDec31_any r w hr)
  have D2 := Lib.hid (fun w (_ : Tabs w) => RDec31_any s w hs)
  have hS := fun w (_ : Tabs w) => RSum_is (linkT h q d p b r s) (digE h q d p b r s) w (linkT_size h q d p b r s hh hq hd hr hs hp hb) (digE_eq h q d p b r s).symm
  rw [← linkR_eq] at hS
  have HS := Lib.hid hS
  have s1 := numB_size r hr
  have s2 := numB_size s hs
  clear hS hh hq hd hr hs hp hb
  generalize digE h q d p b r s = dg at *
  generalize txtE h q d p b = tt at *
  generalize numB r = t1 at *
  generalize numB s = t2 at *
  have z1 : ¬ 9223372036854775807 < tt.size + 1 := by omega
  have z2 : ¬ 9223372036854775807 < tt.size + 1 + t1.size := by omega
  have z3 : ¬ 9223372036854775807 < tt.size + 1 + t1.size + 1 := by omega
  have z4 : ¬ 9223372036854775807 < tt.size + 1 + t1.size + 1 + t2.size := by omega
  clear s1 s2 ts
  have HB0 := Lib.hid (alloc_below w (.cells #[.int .i64 h, .int .i64 q, .int .i64 d, .string p, .string b, .int .i64 r, .int .i64 s] 63))
  have HT0 := Lib.hid (Trk.start (ht.alloc (.cells #[.int .i64 h, .int .i64 q, .int .i64 d, .string p, .string b, .int .i64 r, .int .i64 s] 63)))
  have H7 := Lib.hid (new7 w h q d p b r s 63)
  have hs0 : w.heap.size < (w.alloc (.cells #[.int .i64 h, .int .i64 q, .int .i64 d, .string p, .string b, .int .i64 r, .int .i64 s] 63)).heap.size := by simp
  clear ht
  go_enter Tryd.func49, Tryd.ntmps49
  go_wp2_with fail
  generalize w.alloc (.cells #[.int .i64 h, .int .i64 q, .int .i64 d, .string p, .string b, .int .i64 r, .int .i64 s] 63) = w0 at *
  generalize hn0 : w.heap.size = n0 at *
  have HN0 := Lib.hid hn0
  clear hn0
  obtain ⟨c0, c1, c2, c3, c4, c5, c6⟩ := H7.out
  have HINI := Lib.hid (ini_ent c0 c1 c2 c3 c4 c5 c6 HT0.out)
  clear c0 c1 c2 c3 c4 c5 c6
  go_region_held_law (fun w' => w'.cell? ⟨n0, 0, none⟩ = some (.int .i64 h) ∧ w'.cell? ⟨n0, 1, none⟩ = some (.int .i64 q) ∧ w'.cell? ⟨n0, 2, none⟩ = some (.int .i64 d) ∧ w'.cell? ⟨n0, 3, none⟩ = some (.string p) ∧ w'.cell? ⟨n0, 4, none⟩ = some (.string b) ∧ w'.cell? ⟨n0, 5, none⟩ = some (.int .i64 r) ∧ w'.cell? ⟨n0, 6, none⟩ = some (.int .i64 s) ∧ Trk w0 w') (first | (with_reducible assumption) | (with_reducible exact HINI.out) | (with_reducible refine keep_ent hs0 hba ?_; with_reducible assumption) | (with_reducible refine keep_ent hs0 hbb ?_; with_reducible assumption) | (with_reducible refine keep_ent hs0 hbc ?_; with_reducible assumption) | (with_reducible refine keep_ent hs0 hbd ?_; with_reducible assumption) | (refine keep_ent hs0 (drewN_below _ 1) ?_; first | (with_reducible assumption) | (with_reducible exact HINI.out))) (first | (go_at_call 44; with_reducible refine (FT.out _ ?TT).mono ?_; (case TT => exact (by first | exact (held_ent (by assumption)).tabs | exact HT0.out.tabs | exact HT0.out.tabs.drew)); rintro e wa ⟨rfl, hba⟩) | (go_at_call_of 79 (Value.int IntKind.i64 r); with_reducible refine (D1.out _ ?TT).mono ?_; (case TT => exact (by first | exact (held_ent (by assumption)).tabs | exact HT0.out.tabs | exact HT0.out.tabs.drew)); rintro e wa ⟨rfl, hbb⟩) | (go_at_call_of 79 (Value.int IntKind.i64 s); with_reducible refine (D2.out _ ?TT).mono ?_; (case TT => exact (by first | exact (held_ent (by assumption)).tabs | exact HT0.out.tabs | exact HT0.out.tabs.drew)); rintro e wa ⟨rfl, hbc⟩) | (go_at_call 56; with_reducible refine (HS.out _ ?TT).mono ?_; (case TT => exact (by first | exact (held_ent (by assumption)).tabs | exact HT0.out.tabs | exact HT0.out.tabs.drew)); rintro e wa ⟨rfl, hbd⟩))
  all_goals
    have HF := Lib.hid (held_ent (by assumption))
    go_wp2_with fail
    go_ret
    exact ⟨rfl, by rw [HN0.out]; exact HB0.out.trans (HF.out.bel.mono (Nat.le_of_lt hs0))⟩
set_option maxHeartbeats 2000000 in
set_option maxRecDepth 100000 in
theorem RSigned_raw (y h q d : Int) (p b : ByteArray) (r s : Int) (w : World) (hh : I64 h) (hq : I64 q) (hd : I64 d) (hp : p.size ≤ 40000) (hb : b.size ≤ 40000) (ht : Tabs w) :
    Calls Tryd.prog 80 #[.agg #[.int .i64 h, .int .i64 q, .int .i64 d, .string p, .string b, .int .i64 r, .int .i64 s], .int .i64 y] w fun e w' => e = .returned (.bool (sgdE y h q d p b r s)) ∧ Below w.heap.size w w' := by
  have FT := Lib.hid (fun w ht => RText_raw h q d p b r s w hh hq hd hp hb ht)
  have ts := txtE_size h q d p b hh hq hd hp hb
  have hV := fun w (_ : Tabs w) => RVerify_any y r s (txtE h q d p b) w (by omega)
  rw [← sgdE_eq] at hV
  have HV := Lib.hid hV
  generalize sgdE y h q d p b r s = v at *
  generalize txtE h q d p b = tt at *
  clear hV ts hh hq hd hp hb
  have HB0 := Lib.hid (alloc_below w (.cells #[.int .i64 h, .int .i64 q, .int .i64 d, .string p, .string b, .int .i64 r, .int .i64 s] 63))
  have HT0 := Lib.hid (Trk.start (ht.alloc (.cells #[.int .i64 h, .int .i64 q, .int .i64 d, .string p, .string b, .int .i64 r, .int .i64 s] 63)))
  have H7 := Lib.hid (new7 w h q d p b r s 63)
  have hs0 : w.heap.size < (w.alloc (.cells #[.int .i64 h, .int .i64 q, .int .i64 d, .string p, .string b, .int .i64 r, .int .i64 s] 63)).heap.size := by simp
  clear ht
  go_enter Tryd.func80, Tryd.ntmps80
  go_wp2_with fail
  generalize w.alloc (.cells #[.int .i64 h, .int .i64 q, .int .i64 d, .string p, .string b, .int .i64 r, .int .i64 s] 63) = w0 at *
  generalize hn0 : w.heap.size = n0 at *
  have HN0 := Lib.hid hn0
  clear hn0
  obtain ⟨c0, c1, c2, c3, c4, c5, c6⟩ := H7.out
  have HINI := Lib.hid (ini_ent c0 c1 c2 c3 c4 c5 c6 HT0.out)
  clear c0 c1 c2 c3 c4 c5 c6
  go_region_held_law (fun w' => w'.cell? ⟨n0, 0, none⟩ = some (.int .i64 h) ∧ w'.cell? ⟨n0, 1, none⟩ = some (.int .i64 q) ∧ w'.cell? ⟨n0, 2, none⟩ = some (.int .i64 d) ∧ w'.cell? ⟨n0, 3, none⟩ = some (.string p) ∧ w'.cell? ⟨n0, 4, none⟩ = some (.string b) ∧ w'.cell? ⟨n0, 5, none⟩ = some (.int .i64 r) ∧ w'.cell? ⟨n0, 6, none⟩ = some (.int .i64 s) ∧ Trk w0 w') (first | (with_reducible assumption) | (with_reducible exact HINI.out) | (with_reducible refine keep_ent hs0 hba ?_; with_reducible assumption) | (with_reducible refine keep_ent hs0 hbb ?_; with_reducible assumption) | (refine keep_ent hs0 (drewN_below _ 1) ?_; first | (with_reducible assumption) | (with_reducible exact HINI.out))) (first | (go_at_call 44; with_reducible refine (FT.out _ ?TT).mono ?_; (case TT => exact (by first | exact (held_ent (by assumption)).tabs | exact HT0.out.tabs | exact HT0.out.tabs.drew)); rintro e wa ⟨rfl, hba⟩) | (go_at_call 100; with_reducible refine (HV.out _ ?TT).mono ?_; (case TT => exact (by first | exact (held_ent (by assumption)).tabs | exact HT0.out.tabs | exact HT0.out.tabs.drew)); rintro e wa ⟨rfl, hbb⟩))
  all_goals
    have HF := Lib.hid (held_ent (by assumption))
    go_wp2_with fail
    go_ret
    exact ⟨rfl, by rw [HN0.out]; exact HB0.out.trans (HF.out.bel.mono (Nat.le_of_lt hs0))⟩
end Go.Proofs.YtpdbcahiipbhnaaDoor
