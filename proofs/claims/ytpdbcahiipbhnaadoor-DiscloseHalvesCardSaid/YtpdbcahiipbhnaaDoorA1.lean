/- Over this program: append onto byte slices and word slices of the call's own, each in one word. -/
import Derived.Test.YtpdbcahiipbhnaaDoorA0
import Derived.Test.YtpdbcahiipbhnaaDoorLib
namespace Go.Proofs.YtpdbcahiipbhnaaDoor
open Go.RowKit

theorem infoU8 : (Tryd.prog.info? 5).map (fun i => (i.zero, i.size, i.bytes)) = some (some (.int .u8 0), 1, 1) := by kernel_rfl
theorem infoU32 : (Tryd.prog.info? 107).map (fun i => (i.zero, i.size, i.bytes)) = some (some (.int .u32 0), 1, 4) := by kernel_rfl

/-- append(out, x) and append(out, xs...) on a []byte of the call's own. -/
theorem app_u8 {w : World} {ops : Array Oper} {rest : List Oper} {op : Oper} {a : Act} {Q : Exit → Act → World → Prop} (hgd : op.guard = none) (s x : Operand) (tx : TypeId)
    (ho : op.op = .call { callee := .builtin .append, args := #[s, x], argTypes := #[106, tx] })
    (B : Nat) (v : Value) (n : Nat) (xs : List Value) (hs : a.eval s = v) (hown : Own w B 1 v n xs) (xv : Value) (m : Nat) (news : List Value) (hx : a.eval x = xv) (hsrc : Src Tryd.prog 1 tx xv m news w)
    (hbytes : n + m ≤ 100000000000) (hbase : B ≤ w.heap.size)
    (h : ∀ v' w', Own w' B 1 v' (n + m) (xs ++ news) → w.grownBy w' v.ownBlock → (n + m ≠ 0 → v' ≠ .slice none 0 0) → wpList Tryd.prog ops Q rest (a.put op.dst v') w') : wpList Tryd.prog ops Q (op :: rest) a w := by
  obtain ⟨i0, hi, hz0, hz1, hz2⟩ := info_parts infoU8
  exact wpList_append_Own hgd s x 106 tx ho B 5 i0 (.int .u8 0) 1 1 Tryd.underlying106 hi hz0 hz1 hz2 rfl v n xs hs hown xv m news hx hsrc (by unfold maxLen; omega) (by omega) hbase h
theorem app_u32 {w : World} {ops : Array Oper} {rest : List Oper} {op : Oper} {a : Act} {Q : Exit → Act → World → Prop} (hgd : op.guard = none) (s x : Operand) (tx : TypeId)
    (ho : op.op = .call { callee := .builtin .append, args := #[s, x], argTypes := #[114, tx] })
    (B : Nat) (v : Value) (n : Nat) (xs : List Value) (hs : a.eval s = v) (hown : Own w B 1 v n xs) (xv : Value) (m : Nat) (news : List Value) (hx : a.eval x = xv) (hsrc : Src Tryd.prog 1 tx xv m news w)
    (hbytes : n + m ≤ 10000000000) (hbase : B ≤ w.heap.size)
    (h : ∀ v' w', Own w' B 1 v' (n + m) (xs ++ news) → w.grownBy w' v.ownBlock → (n + m ≠ 0 → v' ≠ .slice none 0 0) → wpList Tryd.prog ops Q rest (a.put op.dst v') w') : wpList Tryd.prog ops Q (op :: rest) a w := by
  obtain ⟨i0, hi, hz0, hz1, hz2⟩ := info_parts infoU32
  exact wpList_append_Own hgd s x 114 tx ho B 107 i0 (.int .u32 0) 1 4 Tryd.underlying114 hi hz0 hz1 hz2 rfl v n xs hs hown xv m news hx hsrc (by unfold maxLen; omega) (by omega) hbase h
/-- The sources, at this program's types. -/
theorem src_u8 (w : World) (b o : Nat) (n : Int) (c : Nat) (h : w.cell? ⟨b, o, none⟩ = some (.int .u8 n)) : Src Tryd.prog 1 106 (.slice (some ⟨b, o, none⟩) 1 c) 1 [.int .u8 n] w := Src_cell Tryd.underlying106 w b o _ rfl c h
theorem src_u32 (w : World) (b o : Nat) (n : Int) (c : Nat) (h : w.cell? ⟨b, o, none⟩ = some (.int .u32 n)) : Src Tryd.prog 1 114 (.slice (some ⟨b, o, none⟩) 1 c) 1 [.int .u32 n] w := Src_cell Tryd.underlying114 w b o _ rfl c h
end Go.Proofs.YtpdbcahiipbhnaaDoor
