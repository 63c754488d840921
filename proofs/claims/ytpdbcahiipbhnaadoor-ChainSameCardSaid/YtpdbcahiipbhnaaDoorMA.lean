/- Layer 31: the laws' head: the walk. -/
import Derived.Test.YtpdbcahiipbhnaaDoorM9
namespace Go.Proofs.YtpdbcahiipbhnaaDoor
open Go.RowKit

abbrev HApp (w : World) (n : Nat) (l : List Ent) : Ending → World → Prop := fun e w' => ∃ ao c lb lo, e = .returned (.tuple #[.slice ao n c, .int .i64 0]) ∧ EntsAt w' ao lb lo l ∧ Below w.heap.size w w'
theorem hA1 (w : World) (ht : Tabs w) : Calls Tryd.prog 40 #[.slice none 0 0, .int .i64 0, .int .i64 5, .int .i64 3, .string ⟨#[97]⟩] w (HApp w 1 [hE1]) :=
  App0 [] none 0 0 0 0 5 3 ⟨#[97]⟩ w (by decide) (fun e he => by cases he) ⟨fun h => absurd h (by decide), fun i e he => by simp at he⟩ ht (by decide) ⟨by decide, by decide⟩ ap1
theorem one_ok {a : Ent} (h : a.Ok) : ∀ e ∈ [a], e.Ok := fun e he => by rw [List.mem_singleton.1 he]; exact h
theorem two_ok {a b : Ent} (h : a.Ok) (k : b.Ok) : ∀ e ∈ [a, b], e.Ok := fun e he => by
  simp only [List.mem_cons, List.not_mem_nil, or_false] at he
  rcases he with rfl | rfl
  · exact h
  · exact k
theorem hA2 (ao : Option Addr) (lb lo c : Nat) (w : World) (h : EntsAt w ao lb lo [hE1]) (ht : Tabs w) : Calls Tryd.prog 40 #[.slice ao 1 c, .int .i64 0, .int .i64 5, .int .i64 4, .string ⟨#[98]⟩] w (HApp w 2 [hE1, hE2]) :=
  App0 [hE1] ao lb lo c 0 5 4 ⟨#[98]⟩ w (by show 1 ≤ 99; decide) (one_ok ok1) h ht (by decide) ⟨by decide, by decide⟩ ap2
theorem hA4 (ao : Option Addr) (lb lo c : Nat) (w : World) (h : EntsAt w ao lb lo [hE1]) (ht : Tabs w) : Calls Tryd.prog 40 #[.slice ao 1 c, .int .i64 0, .int .i64 5, .int .i64 4, .string ⟨#[99]⟩] w (HApp w 2 [hE1, hE3]) :=
  App0 [hE1] ao lb lo c 0 5 4 ⟨#[99]⟩ w (by show 1 ≤ 99; decide) (one_ok ok1) h ht (by decide) ⟨by decide, by decide⟩ ap4
theorem hA3 (ao : Option Addr) (lb lo c : Nat) (w : World) (h : EntsAt w ao lb lo [hE1, hE2]) (ht : Tabs w) : Calls Tryd.prog 40 #[.slice ao 2 c, .int .i64 0, .int .i64 5, .int .i64 2, .string ⟨#[100]⟩] w fun e w' => e = .returned (.tuple #[.slice none 0 0, .int .i64 15]) ∧ Below w.heap.size w w' :=
  App1 [hE1, hE2] ao lb lo c 0 5 2 ⟨#[100]⟩ w (by show 2 ≤ 99; decide) (two_ok ok1 ok2) h ht (by decide) ⟨by decide, by decide⟩ 15 (by decide) ap3
theorem hC2 (ao : Option Addr) (lb lo c : Nat) (w : World) (h : EntsAt w ao lb lo [hE1, hE2]) (ht : Tabs w) : Calls Tryd.prog 38 #[.slice ao 2 c, .int .i64 0, .int .i64 16807] w fun e w' => e = .returned (.tuple #[.int .i64 0, .int .i64 (-1)]) ∧ Below w.heap.size w w' := by
  have h := Check_any 0 16807 [hE1, hE2] ao lb lo c w (by show 2 ≤ 100; decide) (two_ok ok1 ok2) h ht
  rw [chk2] at h; exact h
theorem hCx (ao : Option Addr) (lb lo c : Nat) (w : World) (h : EntsAt w ao lb lo [hEx, hE2]) (ht : Tabs w) : Calls Tryd.prog 38 #[.slice ao 2 c, .int .i64 0, .int .i64 16807] w fun e w' => e = .returned (.tuple #[.int .i64 17, .int .i64 0]) ∧ Below w.heap.size w w' := by
  have h := Check_any 0 16807 [hEx, hE2] ao lb lo c w (by show 2 ≤ 100; decide) (two_ok okx ok2) h ht
  rw [chkx] at h; exact h
theorem hT (w : World) (ht : Tabs w) : Calls Tryd.prog 43 #[.agg #[.int .i64 0, .int .i64 0, .int .i64 3, .string ⟨#[]⟩, .string ⟨#[97]⟩, .int .i64 0, .int .i64 0]] w fun e w' => e = .returned (.string ⟨#[101, 110, 116, 114, 121, 32, 48, 32, 48, 32, 51, 32, 48, 32, 97]⟩) ∧ Below w.heap.size w w' := by
  have h := Text_raw 0 0 3 ⟨#[]⟩ ⟨#[97]⟩ 0 0 w ⟨by decide, by decide⟩ ⟨by decide, by decide⟩ ⟨by decide, by decide⟩ (by decide) (by decide) ht
  rw [head_txt] at h; exact h
theorem own_empty (w : World) (B : Nat) (hB : B ≤ w.heap.size) (t : TypeId) : Own (w.alloc (.cells #[] t)) B 7 (.slice (some ⟨w.heap.size, 0, none⟩) 0 0) 0 [] :=
  ⟨rfl, .inr ⟨w.heap.size, 0, 0, rfl, hB, by simp, Nat.le_refl _, by unfold maxLen; omega, fun j u hj => by simp at hj, fun j hj => by omega⟩⟩
theorem app_ent {w : World} {ops : Array Oper} {rest : List Oper} {op : Oper} {a : Act} {Q : Exit → Act → World → Prop} (hgd : op.guard = none) (s x : Operand)
    (ho : op.op = .call { callee := .builtin .append, args := #[s, x], argTypes := #[51, 51] })
    (B : Nat) (v : Value) (n : Nat) (xs : List Value) (hs : a.eval s = v) (hown : Own w B 7 v n xs) (xv : Value) (m : Nat) (news : List Value) (hx : a.eval x = xv) (hsrc : Src Tryd.prog 7 51 xv m news w)
    (hbytes : n + m ≤ 1000000) (hbase : B ≤ w.heap.size)
    (h : ∀ v' w', Own w' B 7 v' (n + m) (xs ++ news) → w.grownBy w' v.ownBlock → (n + m ≠ 0 → v' ≠ .slice none 0 0) → wpList Tryd.prog ops Q rest (a.put op.dst v') w') : wpList Tryd.prog ops Q (op :: rest) a w := by
  obtain ⟨i0, hi, hz0, hz1, hz2⟩ := info_parts infoEnt
  exact wpList_append_Own hgd s x 51 51 ho B 63 i0 _ 7 72 Tryd.underlying51 hi hz0 hz1 hz2 rfl v n xs hs hown xv m news hx hsrc (by unfold maxLen; omega) (by omega) hbase h

theorem keep_h31 {w0 w w' : World} {n2 n3 : Nat} {o2 o3 : Nat} {a b c : Ent} (l0 : n2 < w0.heap.size) (l1 : n3 < w0.heap.size) (hb : Below w.heap.size w w') (H : w.cell? ⟨n2, o2 + 7, none⟩ = some (.int .i64 a.house) ∧ w.cell? ⟨n2, o2 + 7 + 1, none⟩ = some (.int .i64 a.seq) ∧ w.cell? ⟨n2, o2 + 7 + 2, none⟩ = some (.int .i64 a.day) ∧ w.cell? ⟨n2, o2 + 7 + 3, none⟩ = some (.string a.prev) ∧ w.cell? ⟨n2, o2 + 7 + 4, none⟩ = some (.string a.body) ∧ w.cell? ⟨n2, o2 + 7 + 5, none⟩ = some (.int .i64 a.r) ∧ w.cell? ⟨n2, o2 + 7 + 6, none⟩ = some (.int .i64 a.s) ∧ w.cell? ⟨n3, o3 + 7, none⟩ = some (.int .i64 b.house) ∧ w.cell? ⟨n3, o3 + 7 + 1, none⟩ = some (.int .i64 b.seq) ∧ w.cell? ⟨n3, o3 + 7 + 2, none⟩ = some (.int .i64 b.day) ∧ w.cell? ⟨n3, o3 + 7 + 3, none⟩ = some (.string b.prev) ∧ w.cell? ⟨n3, o3 + 7 + 4, none⟩ = some (.string b.body) ∧ w.cell? ⟨n3, o3 + 7 + 5, none⟩ = some (.int .i64 b.r) ∧ w.cell? ⟨n3, o3 + 7 + 6, none⟩ = some (.int .i64 b.s) ∧ w.cell? ⟨n2, o2, none⟩ = some (.int .i64 c.house) ∧ w.cell? ⟨n2, o2 + 1, none⟩ = some (.int .i64 c.seq) ∧ w.cell? ⟨n2, o2 + 2, none⟩ = some (.int .i64 c.day) ∧ w.cell? ⟨n2, o2 + 3, none⟩ = some (.string c.prev) ∧ w.cell? ⟨n2, o2 + 4, none⟩ = some (.string c.body) ∧ w.cell? ⟨n2, o2 + 5, none⟩ = some (.int .i64 c.r) ∧ w.cell? ⟨n2, o2 + 6, none⟩ = some (.int .i64 c.s) ∧ Trk w0 w) : w'.cell? ⟨n2, o2 + 7, none⟩ = some (.int .i64 a.house) ∧ w'.cell? ⟨n2, o2 + 7 + 1, none⟩ = some (.int .i64 a.seq) ∧ w'.cell? ⟨n2, o2 + 7 + 2, none⟩ = some (.int .i64 a.day) ∧ w'.cell? ⟨n2, o2 + 7 + 3, none⟩ = some (.string a.prev) ∧ w'.cell? ⟨n2, o2 + 7 + 4, none⟩ = some (.string a.body) ∧ w'.cell? ⟨n2, o2 + 7 + 5, none⟩ = some (.int .i64 a.r) ∧ w'.cell? ⟨n2, o2 + 7 + 6, none⟩ = some (.int .i64 a.s) ∧ w'.cell? ⟨n3, o3 + 7, none⟩ = some (.int .i64 b.house) ∧ w'.cell? ⟨n3, o3 + 7 + 1, none⟩ = some (.int .i64 b.seq) ∧ w'.cell? ⟨n3, o3 + 7 + 2, none⟩ = some (.int .i64 b.day) ∧ w'.cell? ⟨n3, o3 + 7 + 3, none⟩ = some (.string b.prev) ∧ w'.cell? ⟨n3, o3 + 7 + 4, none⟩ = some (.string b.body) ∧ w'.cell? ⟨n3, o3 + 7 + 5, none⟩ = some (.int .i64 b.r) ∧ w'.cell? ⟨n3, o3 + 7 + 6, none⟩ = some (.int .i64 b.s) ∧ w'.cell? ⟨n2, o2, none⟩ = some (.int .i64 c.house) ∧ w'.cell? ⟨n2, o2 + 1, none⟩ = some (.int .i64 c.seq) ∧ w'.cell? ⟨n2, o2 + 2, none⟩ = some (.int .i64 c.day) ∧ w'.cell? ⟨n2, o2 + 3, none⟩ = some (.string c.prev) ∧ w'.cell? ⟨n2, o2 + 4, none⟩ = some (.string c.body) ∧ w'.cell? ⟨n2, o2 + 5, none⟩ = some (.int .i64 c.r) ∧ w'.cell? ⟨n2, o2 + 6, none⟩ = some (.int .i64 c.s) ∧ Trk w0 w' :=
  ⟨(hb.cell (p := ⟨n2, o2 + 7, none⟩) (Nat.lt_of_lt_of_le l0 H.2.2.2.2.2.2.2.2.2.2.2.2.2.2.2.2.2.2.2.2.2.bel.size)).trans H.1, (hb.cell (p := ⟨n2, o2 + 7 + 1, none⟩) (Nat.lt_of_lt_of_le l0 H.2.2.2.2.2.2.2.2.2.2.2.2.2.2.2.2.2.2.2.2.2.bel.size)).trans H.2.1, (hb.cell (p := ⟨n2, o2 + 7 + 2, none⟩) (Nat.lt_of_lt_of_le l0 H.2.2.2.2.2.2.2.2.2.2.2.2.2.2.2.2.2.2.2.2.2.bel.size)).trans H.2.2.1, (hb.cell (p := ⟨n2, o2 + 7 + 3, none⟩) (Nat.lt_of_lt_of_le l0 H.2.2.2.2.2.2.2.2.2.2.2.2.2.2.2.2.2.2.2.2.2.bel.size)).trans H.2.2.2.1, (hb.cell (p := ⟨n2, o2 + 7 + 4, none⟩) (Nat.lt_of_lt_of_le l0 H.2.2.2.2.2.2.2.2.2.2.2.2.2.2.2.2.2.2.2.2.2.bel.size)).trans H.2.2.2.2.1, (hb.cell (p := ⟨n2, o2 + 7 + 5, none⟩) (Nat.lt_of_lt_of_le l0 H.2.2.2.2.2.2.2.2.2.2.2.2.2.2.2.2.2.2.2.2.2.bel.size)).trans H.2.2.2.2.2.1, (hb.cell (p := ⟨n2, o2 + 7 + 6, none⟩) (Nat.lt_of_lt_of_le l0 H.2.2.2.2.2.2.2.2.2.2.2.2.2.2.2.2.2.2.2.2.2.bel.size)).trans H.2.2.2.2.2.2.1, (hb.cell (p := ⟨n3, o3 + 7, none⟩) (Nat.lt_of_lt_of_le l1 H.2.2.2.2.2.2.2.2.2.2.2.2.2.2.2.2.2.2.2.2.2.bel.size)).trans H.2.2.2.2.2.2.2.1, (hb.cell (p := ⟨n3, o3 + 7 + 1, none⟩) (Nat.lt_of_lt_of_le l1 H.2.2.2.2.2.2.2.2.2.2.2.2.2.2.2.2.2.2.2.2.2.bel.size)).trans H.2.2.2.2.2.2.2.2.1, (hb.cell (p := ⟨n3, o3 + 7 + 2, none⟩) (Nat.lt_of_lt_of_le l1 H.2.2.2.2.2.2.2.2.2.2.2.2.2.2.2.2.2.2.2.2.2.bel.size)).trans H.2.2.2.2.2.2.2.2.2.1, (hb.cell (p := ⟨n3, o3 + 7 + 3, none⟩) (Nat.lt_of_lt_of_le l1 H.2.2.2.2.2.2.2.2.2.2.2.2.2.2.2.2.2.2.2.2.2.bel.size)).trans H.2.2.2.2.2.2.2.2.2.2.1, (hb.cell (p := ⟨n3, o3 + 7 + 4, none⟩) (Nat.lt_of_lt_of_le l1 H.2.2.2.2.2.2.2.2.2.2.2.2.2.2.2.2.2.2.2.2.2.bel.size)).trans H.2.2.2.2.2.2.2.2.2.2.2.1, (hb.cell (p := ⟨n3, o3 + 7 + 5, none⟩) (Nat.lt_of_lt_of_le l1 H.2.2.2.2.2.2.2.2.2.2.2.2.2.2.2.2.2.2.2.2.2.bel.size)).trans H.2.2.2.2.2.2.2.2.2.2.2.2.1, (hb.cell (p := ⟨n3, o3 + 7 + 6, none⟩) (Nat.lt_of_lt_of_le l1 H.2.2.2.2.2.2.2.2.2.2.2.2.2.2.2.2.2.2.2.2.2.bel.size)).trans H.2.2.2.2.2.2.2.2.2.2.2.2.2.1, (hb.cell (p := ⟨n2, o2, none⟩) (Nat.lt_of_lt_of_le l0 H.2.2.2.2.2.2.2.2.2.2.2.2.2.2.2.2.2.2.2.2.2.bel.size)).trans H.2.2.2.2.2.2.2.2.2.2.2.2.2.2.1, (hb.cell (p := ⟨n2, o2 + 1, none⟩) (Nat.lt_of_lt_of_le l0 H.2.2.2.2.2.2.2.2.2.2.2.2.2.2.2.2.2.2.2.2.2.bel.size)).trans H.2.2.2.2.2.2.2.2.2.2.2.2.2.2.2.1, (hb.cell (p := ⟨n2, o2 + 2, none⟩) (Nat.lt_of_lt_of_le l0 H.2.2.2.2.2.2.2.2.2.2.2.2.2.2.2.2.2.2.2.2.2.bel.size)).trans H.2.2.2.2.2.2.2.2.2.2.2.2.2.2.2.2.1, (hb.cell (p := ⟨n2, o2 + 3, none⟩) (Nat.lt_of_lt_of_le l0 H.2.2.2.2.2.2.2.2.2.2.2.2.2.2.2.2.2.2.2.2.2.bel.size)).trans H.2.2.2.2.2.2.2.2.2.2.2.2.2.2.2.2.2.1, (hb.cell (p := ⟨n2, o2 + 4, none⟩) (Nat.lt_of_lt_of_le l0 H.2.2.2.2.2.2.2.2.2.2.2.2.2.2.2.2.2.2.2.2.2.bel.size)).trans H.2.2.2.2.2.2.2.2.2.2.2.2.2.2.2.2.2.2.1, (hb.cell (p := ⟨n2, o2 + 5, none⟩) (Nat.lt_of_lt_of_le l0 H.2.2.2.2.2.2.2.2.2.2.2.2.2.2.2.2.2.2.2.2.2.bel.size)).trans H.2.2.2.2.2.2.2.2.2.2.2.2.2.2.2.2.2.2.2.1, (hb.cell (p := ⟨n2, o2 + 6, none⟩) (Nat.lt_of_lt_of_le l0 H.2.2.2.2.2.2.2.2.2.2.2.2.2.2.2.2.2.2.2.2.2.bel.size)).trans H.2.2.2.2.2.2.2.2.2.2.2.2.2.2.2.2.2.2.2.2.1, H.2.2.2.2.2.2.2.2.2.2.2.2.2.2.2.2.2.2.2.2.2.step hb⟩
theorem held_h31 {w0 w : World} {n2 n3 : Nat} {o2 o3 : Nat} {a b c : Ent} (H : w.cell? ⟨n2, o2 + 7, none⟩ = some (.int .i64 a.house) ∧ w.cell? ⟨n2, o2 + 7 + 1, none⟩ = some (.int .i64 a.seq) ∧ w.cell? ⟨n2, o2 + 7 + 2, none⟩ = some (.int .i64 a.day) ∧ w.cell? ⟨n2, o2 + 7 + 3, none⟩ = some (.string a.prev) ∧ w.cell? ⟨n2, o2 + 7 + 4, none⟩ = some (.string a.body) ∧ w.cell? ⟨n2, o2 + 7 + 5, none⟩ = some (.int .i64 a.r) ∧ w.cell? ⟨n2, o2 + 7 + 6, none⟩ = some (.int .i64 a.s) ∧ w.cell? ⟨n3, o3 + 7, none⟩ = some (.int .i64 b.house) ∧ w.cell? ⟨n3, o3 + 7 + 1, none⟩ = some (.int .i64 b.seq) ∧ w.cell? ⟨n3, o3 + 7 + 2, none⟩ = some (.int .i64 b.day) ∧ w.cell? ⟨n3, o3 + 7 + 3, none⟩ = some (.string b.prev) ∧ w.cell? ⟨n3, o3 + 7 + 4, none⟩ = some (.string b.body) ∧ w.cell? ⟨n3, o3 + 7 + 5, none⟩ = some (.int .i64 b.r) ∧ w.cell? ⟨n3, o3 + 7 + 6, none⟩ = some (.int .i64 b.s) ∧ w.cell? ⟨n2, o2, none⟩ = some (.int .i64 c.house) ∧ w.cell? ⟨n2, o2 + 1, none⟩ = some (.int .i64 c.seq) ∧ w.cell? ⟨n2, o2 + 2, none⟩ = some (.int .i64 c.day) ∧ w.cell? ⟨n2, o2 + 3, none⟩ = some (.string c.prev) ∧ w.cell? ⟨n2, o2 + 4, none⟩ = some (.string c.body) ∧ w.cell? ⟨n2, o2 + 5, none⟩ = some (.int .i64 c.r) ∧ w.cell? ⟨n2, o2 + 6, none⟩ = some (.int .i64 c.s) ∧ Trk w0 w) : Trk w0 w := H.2.2.2.2.2.2.2.2.2.2.2.2.2.2.2.2.2.2.2.2.2
theorem ini_h31 {w0 w : World} {n2 n3 : Nat} {o2 o3 : Nat} {a b c : Ent} (h0 : w.cell? ⟨n2, o2 + 7, none⟩ = some (.int .i64 a.house)) (h1 : w.cell? ⟨n2, o2 + 7 + 1, none⟩ = some (.int .i64 a.seq)) (h2 : w.cell? ⟨n2, o2 + 7 + 2, none⟩ = some (.int .i64 a.day)) (h3 : w.cell? ⟨n2, o2 + 7 + 3, none⟩ = some (.string a.prev)) (h4 : w.cell? ⟨n2, o2 + 7 + 4, none⟩ = some (.string a.body)) (h5 : w.cell? ⟨n2, o2 + 7 + 5, none⟩ = some (.int .i64 a.r)) (h6 : w.cell? ⟨n2, o2 + 7 + 6, none⟩ = some (.int .i64 a.s)) (h7 : w.cell? ⟨n3, o3 + 7, none⟩ = some (.int .i64 b.house)) (h8 : w.cell? ⟨n3, o3 + 7 + 1, none⟩ = some (.int .i64 b.seq)) (h9 : w.cell? ⟨n3, o3 + 7 + 2, none⟩ = some (.int .i64 b.day)) (h10 : w.cell? ⟨n3, o3 + 7 + 3, none⟩ = some (.string b.prev)) (h11 : w.cell? ⟨n3, o3 + 7 + 4, none⟩ = some (.string b.body)) (h12 : w.cell? ⟨n3, o3 + 7 + 5, none⟩ = some (.int .i64 b.r)) (h13 : w.cell? ⟨n3, o3 + 7 + 6, none⟩ = some (.int .i64 b.s)) (h14 : w.cell? ⟨n2, o2, none⟩ = some (.int .i64 c.house)) (h15 : w.cell? ⟨n2, o2 + 1, none⟩ = some (.int .i64 c.seq)) (h16 : w.cell? ⟨n2, o2 + 2, none⟩ = some (.int .i64 c.day)) (h17 : w.cell? ⟨n2, o2 + 3, none⟩ = some (.string c.prev)) (h18 : w.cell? ⟨n2, o2 + 4, none⟩ = some (.string c.body)) (h19 : w.cell? ⟨n2, o2 + 5, none⟩ = some (.int .i64 c.r)) (h20 : w.cell? ⟨n2, o2 + 6, none⟩ = some (.int .i64 c.s)) (ht : Trk w0 w) : w.cell? ⟨n2, o2 + 7, none⟩ = some (.int .i64 a.house) ∧ w.cell? ⟨n2, o2 + 7 + 1, none⟩ = some (.int .i64 a.seq) ∧ w.cell? ⟨n2, o2 + 7 + 2, none⟩ = some (.int .i64 a.day) ∧ w.cell? ⟨n2, o2 + 7 + 3, none⟩ = some (.string a.prev) ∧ w.cell? ⟨n2, o2 + 7 + 4, none⟩ = some (.string a.body) ∧ w.cell? ⟨n2, o2 + 7 + 5, none⟩ = some (.int .i64 a.r) ∧ w.cell? ⟨n2, o2 + 7 + 6, none⟩ = some (.int .i64 a.s) ∧ w.cell? ⟨n3, o3 + 7, none⟩ = some (.int .i64 b.house) ∧ w.cell? ⟨n3, o3 + 7 + 1, none⟩ = some (.int .i64 b.seq) ∧ w.cell? ⟨n3, o3 + 7 + 2, none⟩ = some (.int .i64 b.day) ∧ w.cell? ⟨n3, o3 + 7 + 3, none⟩ = some (.string b.prev) ∧ w.cell? ⟨n3, o3 + 7 + 4, none⟩ = some (.string b.body) ∧ w.cell? ⟨n3, o3 + 7 + 5, none⟩ = some (.int .i64 b.r) ∧ w.cell? ⟨n3, o3 + 7 + 6, none⟩ = some (.int .i64 b.s) ∧ w.cell? ⟨n2, o2, none⟩ = some (.int .i64 c.house) ∧ w.cell? ⟨n2, o2 + 1, none⟩ = some (.int .i64 c.seq) ∧ w.cell? ⟨n2, o2 + 2, none⟩ = some (.int .i64 c.day) ∧ w.cell? ⟨n2, o2 + 3, none⟩ = some (.string c.prev) ∧ w.cell? ⟨n2, o2 + 4, none⟩ = some (.string c.body) ∧ w.cell? ⟨n2, o2 + 5, none⟩ = some (.int .i64 c.r) ∧ w.cell? ⟨n2, o2 + 6, none⟩ = some (.int .i64 c.s) ∧ Trk w0 w :=
  ⟨h0, h1, h2, h3, h4, h5, h6, h7, h8, h9, h10, h11, h12, h13, h14, h15, h16, h17, h18, h19, h20, ht⟩
set_option maxHeartbeats 4000000 in
set_option maxRecDepth 100000 in
theorem head31 (w : World) (ht : Tabs w) : Calls Tryd.prog 36 #[] w fun e w' => e = .returned (.bool true) ∧ Below w.heap.size w w' := by
  have T0 := Lib.hid (Trk.start ht)
  have HTT := Lib.hid ht
  clear ht
  go_enter Tryd.func36, Tryd.ntmps36
  go_wp2_with fail
  refine (hA1 _ T0.out.tabs).mono ?_
  rintro e v1 ⟨ao1, c1, lb1, lo1, rfl, hE, hb⟩
  have T1 := Lib.hid (T0.out.step hb)
  have L1 := Lib.hid hE
  clear hb hE
  go_wp2_with fail
  refine (hA2 ao1 lb1 lo1 c1 _ L1.out T1.out.tabs).mono ?_
  rintro e v2 ⟨ao2, c2, lb2, lo2, rfl, hE, hb⟩
  have T2 := Lib.hid (T1.out.step hb)
  have L2 := Lib.hid hE
  replace L1 := Lib.hid (L1.out.step hb)
  clear hb hE
  go_wp2_with fail
  refine (hA3 ao2 lb2 lo2 c2 _ L2.out T2.out.tabs).mono ?_
  rintro e v3 ⟨rfl, hb⟩
  have T3 := Lib.hid (T2.out.step hb)
  replace L1 := Lib.hid (L1.out.step hb)
  replace L2 := Lib.hid (L2.out.step hb)
  clear hb
  go_wp2_with fail
  refine (hA4 ao1 lb1 lo1 c1 _ L1.out T3.out.tabs).mono ?_
  rintro e v4 ⟨ao3, c3, lb3, lo3, rfl, hE, hb⟩
  have T4 := Lib.hid (T3.out.step hb)
  replace L2 := Lib.hid (L2.out.step hb)
  have L3 := Lib.hid hE
  clear hb hE L1
  go_wp2_with fail
  refine (hC2 ao2 lb2 lo2 c2 _ L2.out T4.out.tabs).mono ?_
  rintro e v5 ⟨rfl, hb⟩
  have T5 := Lib.hid (T4.out.step hb)
  replace L2 := Lib.hid (L2.out.step hb)
  replace L3 := Lib.hid (L3.out.step hb)
  clear hb
  obtain ⟨rfl, hl2⟩ := L2.out.ao (by decide)
  obtain ⟨rfl, hl3⟩ := L3.out.ao (by decide)
  have hz5 := T5.out.bel.size
  have T6 := Lib.hid (T5.out.alloc (.cells #[] 63))
  have L2a := Lib.hid (L2.out.step (alloc_below v5 (.cells #[] 63)))
  have L3a := Lib.hid (L3.out.step (alloc_below v5 (.cells #[] 63)))
  go_wp2_with (at_builtin; refine app_ent rfl _ _ rfl v5.heap.size _ 0 [] rfl (own_empty v5 v5.heap.size (Nat.le_refl _) 63) _ 2 (cellsE [hE1, hE2]) rfl L2a.out.src (by omega) (by simp) ?_; intro vx v6 hown hgrow _; obtain ⟨g, o, cap, hv, hg1, hg2, hc3, hc4, hr, hth⟩ := hown.place (by omega); subst hv; have s4 : v6.cell? ⟨g, o + 4, none⟩ = some (.string hE1.body) := hr 4 _ rfl; have z4 : v6.frozen? ⟨g, o + 4, none⟩ = false := (hth 4 (by omega)).2; have R6 := Lib.hid hr; have H6 := Lib.hid hth; have G6 := Lib.hid hgrow; clear hown hr hth hgrow)
  have B5 : Below v5.heap.size v5 (v6.setCell ⟨g, o + 4, none⟩ (.string ⟨#[99]⟩)) :=
    (((Below.refl v5.heap.size v5).alloc (Nat.le_refl _) (.cells #[] 63)).grown G6.out (by simp) (fun k hk => by cases hk; exact Nat.le_refl _)).setCell (p := ⟨g, o + 4, none⟩) hg1 (.string ⟨#[99]⟩)
  have LX : Hid (EntsAt (v6.setCell ⟨g, o + 4, none⟩ (.string ⟨#[99]⟩)) (some ⟨g, o, none⟩) g o [hEx, hE2]) := Lib.hid (EntsAt.of_cells (fun _ => by simpa [World.setCell] using hg2) (fun j u hj => rangeAt_set R6.out 4 (.string ⟨#[99]⟩) j u hj))
  have T7 := Lib.hid (T5.out.step B5)
  replace L2 := Lib.hid (L2.out.step B5)
  replace L3 := Lib.hid (L3.out.step B5)
  clear B5 s4 z4 R6 H6 G6 L2a L3a T6
  generalize v6.setCell ⟨g, o + 4, none⟩ (.string ⟨#[99]⟩) = v7 at *
  refine (hCx _ g o cap _ LX.out T7.out.tabs).mono ?_
  rintro e v8 ⟨rfl, hb⟩
  have T8 := Lib.hid (T7.out.step hb)
  replace L2 := Lib.hid (L2.out.step hb)
  replace L3 := Lib.hid (L3.out.step hb)
  clear hb LX
  have l2 := (L2.out.ao (by decide)).2
  have l3 := (L3.out.ao (by decide)).2
  have a2 := L2.out.at_ 1 hE2 rfl
  have a1 := L2.out.at_ 0 hE1 rfl
  have a3 := L3.out.at_ 1 hE3 rfl
  rw [Nat.one_mul] at a2 a3
  rw [Nat.zero_mul, Nat.add_zero] at a1
  have s2 : (hE2.seq == 1) = true := rfl
  have p2 : hE2.prev.size = 64 := digE_size _ _ _ _ _ _ _
  have p2' : ((hE2.prev.size : Int) == 64) = true := by rw [p2]; rfl
  have HF23 := Lib.hid (fun w ht => Fork_any hE2 hE3 16807 w ok2 ok3 ht)
  have HF11 := Lib.hid (fun w ht => Fork_any hE1 hE1 16807 w ok1 ok1 ht)
  rw [frk23] at HF23
  rw [frk11] at HF11
  have HTX := Lib.hid (fun w ht => hT w ht)
  clear L2 L3 hg1 hg2 hc3 hc4 hl2 hl3 hz5 p2
  generalize hE1 = e1 at *
  generalize hE2 = e2 at *
  generalize hE3 = e3 at *
  obtain ⟨x0, x1, x2, x3, x4, x5, x6⟩ := a1
  obtain ⟨y0, y1, y2, y3, y4, y5, y6⟩ := a2
  obtain ⟨z0, z1, z2, z3, z4, z5, z6⟩ := a3
  go_wp2_with fail
  go_region_held_law (fun w' => w'.cell? ⟨lb2, lo2 + 7, none⟩ = some (.int .i64 e2.house) ∧ w'.cell? ⟨lb2, lo2 + 7 + 1, none⟩ = some (.int .i64 e2.seq) ∧ w'.cell? ⟨lb2, lo2 + 7 + 2, none⟩ = some (.int .i64 e2.day) ∧ w'.cell? ⟨lb2, lo2 + 7 + 3, none⟩ = some (.string e2.prev) ∧ w'.cell? ⟨lb2, lo2 + 7 + 4, none⟩ = some (.string e2.body) ∧ w'.cell? ⟨lb2, lo2 + 7 + 5, none⟩ = some (.int .i64 e2.r) ∧ w'.cell? ⟨lb2, lo2 + 7 + 6, none⟩ = some (.int .i64 e2.s) ∧ w'.cell? ⟨lb3, lo3 + 7, none⟩ = some (.int .i64 e3.house) ∧ w'.cell? ⟨lb3, lo3 + 7 + 1, none⟩ = some (.int .i64 e3.seq) ∧ w'.cell? ⟨lb3, lo3 + 7 + 2, none⟩ = some (.int .i64 e3.day) ∧ w'.cell? ⟨lb3, lo3 + 7 + 3, none⟩ = some (.string e3.prev) ∧ w'.cell? ⟨lb3, lo3 + 7 + 4, none⟩ = some (.string e3.body) ∧ w'.cell? ⟨lb3, lo3 + 7 + 5, none⟩ = some (.int .i64 e3.r) ∧ w'.cell? ⟨lb3, lo3 + 7 + 6, none⟩ = some (.int .i64 e3.s) ∧ w'.cell? ⟨lb2, lo2, none⟩ = some (.int .i64 e1.house) ∧ w'.cell? ⟨lb2, lo2 + 1, none⟩ = some (.int .i64 e1.seq) ∧ w'.cell? ⟨lb2, lo2 + 2, none⟩ = some (.int .i64 e1.day) ∧ w'.cell? ⟨lb2, lo2 + 3, none⟩ = some (.string e1.prev) ∧ w'.cell? ⟨lb2, lo2 + 4, none⟩ = some (.string e1.body) ∧ w'.cell? ⟨lb2, lo2 + 5, none⟩ = some (.int .i64 e1.r) ∧ w'.cell? ⟨lb2, lo2 + 6, none⟩ = some (.int .i64 e1.s) ∧ Trk v8 w') (first | (go_keep; done) | exact keep_h31 l2 l3 hba (by assumption) | exact keep_h31 l2 l3 hbb (by assumption) | exact keep_h31 l2 l3 hbc (by assumption) | exact keep_h31 l2 l3 (drewN_below _ 1) (by assumption) | exact keep_h31 l2 l3 (alloc_below _ _) (by assumption) | exact keep_h31 l2 l3 (alloc_drew_below _ _) (by assumption) | exact keep_h31 l2 l3 (drewN_below _ 1) (ini_h31 y0 y1 y2 y3 y4 y5 y6 z0 z1 z2 z3 z4 z5 z6 x0 x1 x2 x3 x4 x5 x6 (Trk.start T8.out.tabs)) | exact keep_h31 l2 l3 (alloc_below _ _) (ini_h31 y0 y1 y2 y3 y4 y5 y6 z0 z1 z2 z3 z4 z5 z6 x0 x1 x2 x3 x4 x5 x6 (Trk.start T8.out.tabs)) | exact keep_h31 l2 l3 (alloc_drew_below _ _) (ini_h31 y0 y1 y2 y3 y4 y5 y6 z0 z1 z2 z3 z4 z5 z6 x0 x1 x2 x3 x4 x5 x6 (Trk.start T8.out.tabs)) | exact (ini_h31 y0 y1 y2 y3 y4 y5 y6 z0 z1 z2 z3 z4 z5 z6 x0 x1 x2 x3 x4 x5 x6 (Trk.start T8.out.tabs))) (first | (go_at_call 43; refine (HTX.out _ (by exact (held_h31 (by assumption)).tabs)).mono ?_; rintro e wa ⟨rfl, hba⟩) | (go_at_call_of 45 (Value.agg #[Value.int IntKind.i64 e2.house, Value.int IntKind.i64 e2.seq, Value.int IntKind.i64 e2.day, Value.string e2.prev, Value.string e2.body, Value.int IntKind.i64 e2.r, Value.int IntKind.i64 e2.s]); refine (HF23.out _ (by exact (held_h31 (by assumption)).tabs)).mono ?_; rintro e wb ⟨rfl, hbb⟩) | (go_at_call_of 45 (Value.agg #[Value.int IntKind.i64 e1.house, Value.int IntKind.i64 e1.seq, Value.int IntKind.i64 e1.day, Value.string e1.prev, Value.string e1.body, Value.int IntKind.i64 e1.r, Value.int IntKind.i64 e1.s]); refine (HF11.out _ (by exact (held_h31 (by assumption)).tabs)).mono ?_; rintro e wc ⟨rfl, hbc⟩))
  all_goals
    have HF := Lib.hid (held_h31 (by assumption))
    go_wp2_with fail
    go_ret
    exact ⟨by first | rfl | simp, T8.out.bel.trans (HF.out.bel.mono T8.out.bel.size)⟩
end Go.Proofs.YtpdbcahiipbhnaaDoor
