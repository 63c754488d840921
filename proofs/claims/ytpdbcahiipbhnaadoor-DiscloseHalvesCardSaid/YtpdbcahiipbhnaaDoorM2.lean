/- Layer 31: chain.Text. -/
import Derived.Test.YtpdbcahiipbhnaaDoorM1
import Derived.Deep.RegionHeldLaw
namespace Go.Proofs.YtpdbcahiipbhnaaDoor
open Go.RowKit

abbrev entryW : ByteArray := ⟨#[101, 110, 116, 114, 121]⟩
/-- The text of an entry. -/
@[irreducible] def txtE (h q d : Int) (p b : ByteArray) : ByteArray := wordsB entryW [h, q, d, p.size] ++ ⟨#[32]⟩ ++ p ++ b
theorem txtE_eq (h q d : Int) (p b : ByteArray) : txtE h q d p b = wordsB entryW [h, q, d, p.size] ++ ⟨#[32]⟩ ++ p ++ b := by unfold txtE; rfl
theorem size_I64 (n : Nat) (h : n ≤ 1000000000) : I64 (n : Int) := ⟨by omega, by omega⟩
theorem entryWords_size (h q d : Int) (n : Nat) (hh : I64 h) (hq : I64 q) (hd : I64 d) (hn : n ≤ 1000000000) : (wordsB entryW [h, q, d, n]).size ≤ 1000 := by
  have h1 := wordsB_size entryW [h, q, d, n] (fun x hx => by
    simp only [List.mem_cons, List.not_mem_nil, or_false] at hx
    rcases hx with rfl | rfl | rfl | rfl
    · exact hh
    · exact hq
    · exact hd
    · exact size_I64 n hn)
  have h2 : entryW.size = 5 := rfl
  simp only [List.length_cons, List.length_nil] at h1
  omega
theorem txtE_size (h q d : Int) (p b : ByteArray) (hh : I64 h) (hq : I64 q) (hd : I64 d) (hp : p.size ≤ 40000) (hb : b.size ≤ 40000) : (txtE h q d p b).size ≤ 90000 := by
  have h1 := entryWords_size h q d p.size hh hq hd (by omega)
  rw [txtE_eq, ByteArray.size_append, ByteArray.size_append, ByteArray.size_append]
  have h2 : (⟨#[32]⟩ : ByteArray).size = 1 := rfl
  omega
theorem words4 (f : ByteArray) (x0 x1 x2 x3 : Int) (b : Nat) (w : World) (hf : 0 < f.size) (hf2 : f.size ≤ 1000000) (h0 : I64 x0) (h1 : I64 x1) (h2 : I64 x2) (h3 : I64 x3)
    (hbl : b < w.heap.size) (c0 : w.cell? ⟨b, 0, none⟩ = some (.int .i64 x0)) (c1 : w.cell? ⟨b, 1, none⟩ = some (.int .i64 x1)) (c2 : w.cell? ⟨b, 2, none⟩ = some (.int .i64 x2)) (c3 : w.cell? ⟨b, 3, none⟩ = some (.int .i64 x3)) (ht : Tabs w) :
    Calls Tryd.prog 78 #[.string f, .slice (some ⟨b, 0, none⟩) 4 4] w fun e w' => e = .returned (.string (wordsB f [x0, x1, x2, x3])) ∧ Below w.heap.size w w' := by
  refine cwords_any f [x0, x1, x2, x3] b 0 4 w hf hf2 (by simp) (fun x hx => ?_) hbl (fun j n hj => ?_) ht
  · simp only [List.mem_cons, List.not_mem_nil, or_false] at hx
    rcases hx with rfl | rfl | rfl | rfl <;> assumption
  · rw [Nat.zero_add]
    match j, hj with
    | 0, hj => cases hj; exact c0
    | 1, hj => cases hj; exact c1
    | 2, hj => cases hj; exact c2
    | 3, hj => cases hj; exact c3
theorem words2 (f : ByteArray) (x0 x1 : Int) (b : Nat) (w : World) (hf : 0 < f.size) (hf2 : f.size ≤ 1000000) (h0 : I64 x0) (h1 : I64 x1)
    (hbl : b < w.heap.size) (c0 : w.cell? ⟨b, 0, none⟩ = some (.int .i64 x0)) (c1 : w.cell? ⟨b, 1, none⟩ = some (.int .i64 x1)) (ht : Tabs w) :
    Calls Tryd.prog 78 #[.string f, .slice (some ⟨b, 0, none⟩) 2 2] w fun e w' => e = .returned (.string (wordsB f [x0, x1])) ∧ Below w.heap.size w w' := by
  refine cwords_any f [x0, x1] b 0 2 w hf hf2 (by simp) (fun x hx => ?_) hbl (fun j n hj => ?_) ht
  · simp only [List.mem_cons, List.not_mem_nil, or_false] at hx
    rcases hx with rfl | rfl <;> assumption
  · rw [Nat.zero_add]
    match j, hj with
    | 0, hj => cases hj; exact c0
    | 1, hj => cases hj; exact c1

theorem bel_call {w w0 wa : World} {n : Nat} {o : Obj} (h : Below n w w0) (hn : n ≤ w0.heap.size) (hb : Below (w0.alloc o).drew.heap.size (w0.alloc o).drew wa) : Below n w wa :=
  (h.alloc hn o).trans (Below.mono (B := (w0.alloc o).drew.heap.size) ⟨hb.os, hb.tape, hb.output, hb.size, hb.block⟩ (by show n ≤ (w0.alloc o).heap.size; simp; omega))
/-- Seven cells of a block: an entry. -/
abbrev At7 (w : World) (n : Nat) (h q d : Int) (p b : ByteArray) (r s : Int) : Prop := w.cell? ⟨n, 0, none⟩ = some (.int .i64 h) ∧ w.cell? ⟨n, 1, none⟩ = some (.int .i64 q) ∧ w.cell? ⟨n, 2, none⟩ = some (.int .i64 d) ∧ w.cell? ⟨n, 3, none⟩ = some (.string p) ∧ w.cell? ⟨n, 4, none⟩ = some (.string b) ∧ w.cell? ⟨n, 5, none⟩ = some (.int .i64 r) ∧ w.cell? ⟨n, 6, none⟩ = some (.int .i64 s)
theorem keep7 {w w' : World} {n : Nat} {h q d : Int} {p b : ByteArray} {r s : Int} (l : n < w.heap.size) (hb : Below w.heap.size w w') (H : At7 w n h q d p b r s) : At7 w' n h q d p b r s :=
  ⟨(hb.cell (p := ⟨n, 0, none⟩) l).trans H.1, (hb.cell (p := ⟨n, 1, none⟩) l).trans H.2.1, (hb.cell (p := ⟨n, 2, none⟩) l).trans H.2.2.1, (hb.cell (p := ⟨n, 3, none⟩) l).trans H.2.2.2.1, (hb.cell (p := ⟨n, 4, none⟩) l).trans H.2.2.2.2.1, (hb.cell (p := ⟨n, 5, none⟩) l).trans H.2.2.2.2.2.1, (hb.cell (p := ⟨n, 6, none⟩) l).trans H.2.2.2.2.2.2⟩
theorem new7 (w : World) (h q d : Int) (p b : ByteArray) (r s : Int) (t : TypeId) : At7 (w.alloc (.cells #[.int .i64 h, .int .i64 q, .int .i64 d, .string p, .string b, .int .i64 r, .int .i64 s] t)) w.heap.size h q d p b r s :=
  ⟨new0 rfl rfl, new0 rfl rfl, new0 rfl rfl, new0 rfl rfl, new0 rfl rfl, new0 rfl rfl, new0 rfl rfl⟩
set_option maxHeartbeats 2000000 in
set_option maxRecDepth 100000 in
theorem Text_raw (h q d : Int) (p b : ByteArray) (r s : Int) (w : World) (hh : I64 h) (hq : I64 q) (hd : I64 d) (hp : p.size ≤ 40000) (hb : b.size ≤ 40000) (ht : Tabs w) :
    Calls Tryd.prog 43 #[.agg #[.int .i64 h, .int .i64 q, .int .i64 d, .string p, .string b, .int .i64 r, .int .i64 s]] w fun e w' => e = .returned (.string (txtE h q d p b)) ∧ Below w.heap.size w w' := by
  have hu := entryWords_size h q d p.size hh hq hd (by omega)
  have HE := Lib.hid (txtE_eq h q d p b)
  have HP : Hid (p.size ≤ 40000) := Lib.hid hp
  have HW := Lib.hid (fun b w hbl c0 c1 c2 c3 ht => words4 entryW h q d p.size b w (by decide) (by decide) hh hq hd (size_I64 _ (by have := HP.out; omega)) hbl c0 c1 c2 c3 ht)
  have HT0 := Lib.hid (ht.alloc (.cells #[.int .i64 h, .int .i64 q, .int .i64 d, .string p, .string b, .int .i64 r, .int .i64 s] 63))
  clear ht hh hq hd
  generalize wordsB entryW [h, q, d, (p.size : Int)] = u at *
  generalize txtE h q d p b = t at *
  have z1 : ¬ 9223372036854775807 < u.size + 1 := by omega
  have z2 : ¬ 9223372036854775807 < u.size + 1 + p.size := by omega
  have z3 : ¬ 9223372036854775807 < u.size + 1 + p.size + b.size := by omega
  clear hp hb hu
  have H7 := Lib.hid (new7 w h q d p b r s 63)
  have HB0 := Lib.hid ((Below.refl w.heap.size w).alloc (Nat.le_refl _) (.cells #[.int .i64 h, .int .i64 q, .int .i64 d, .string p, .string b, .int .i64 r, .int .i64 s] 63))
  have hs0 : w.heap.size < (w.alloc (.cells #[.int .i64 h, .int .i64 q, .int .i64 d, .string p, .string b, .int .i64 r, .int .i64 s] 63)).heap.size := by simp
  go_enter Tryd.func43, Tryd.ntmps43
  go_wp2_with fail
  generalize w.alloc (.cells #[.int .i64 h, .int .i64 q, .int .i64 d, .string p, .string b, .int .i64 r, .int .i64 s] 63) = w0 at *
  generalize hn0 : w.heap.size = n0 at *
  have HN0 := Lib.hid hn0
  clear hn0
  obtain ⟨c0, c1, c2, c3, c4, c5, c6⟩ := H7.out
  go_region_held_law (fun w' => w'.cell? ⟨n0, 0, none⟩ = some (.int .i64 h) ∧ w'.cell? ⟨n0, 1, none⟩ = some (.int .i64 q) ∧ w'.cell? ⟨n0, 2, none⟩ = some (.int .i64 d) ∧ w'.cell? ⟨n0, 3, none⟩ = some (.string p) ∧ w'.cell? ⟨n0, 4, none⟩ = some (.string b) ∧ w'.cell? ⟨n0, 5, none⟩ = some (.int .i64 r) ∧ w'.cell? ⟨n0, 6, none⟩ = some (.int .i64 s)) (first | (go_keep; done) | exact keep7 (by (try simp); omega) hba (by assumption)) ((go_at_call 78; refine (HW.out _ _ (by simp) (by exact new0 rfl rfl) (by exact new0 rfl rfl) (by exact new0 rfl rfl) (by exact new0 rfl rfl) (by repeat (first | exact HT0.out | apply Tabs.drew | apply Tabs.alloc))).mono ?_; rintro e wa ⟨rfl, hba⟩))
  have HBA := Lib.hid hba
  clear hba
  go_wp2_with fail
  go_ret
  exact ⟨by rw [HE.out]; rfl, by rw [HN0.out]; exact bel_call HB0.out (Nat.le_of_lt hs0) HBA.out⟩
end Go.Proofs.YtpdbcahiipbhnaaDoor
