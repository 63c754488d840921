/- The words of the digest as the walk spells them: each operation on a uint32 as the operation on 32 bits. -/
import Derived.Test.YtpdbcahiipbhnaaDoorSha
import Derived.WalkKit
namespace Go.Proofs.YtpdbcahiipbhnaaDoor.Sha
open Go.RowKit

theorem toNat_lt (x : W) : x.toNat < 4294967296 := x.isLt
theorem add_W (x y : W) : IntKind.u32.wrap ((x.toNat : Int) + (y.toNat : Int)) = ((x + y).toNat : Int) := by
  rw [IntKind.wrap_u32', BitVec.toNat_add]; omega
theorem add_W' (x y : W) : ((x.toNat : Int) + (y.toNat : Int)) % 4294967296 = ((x + y).toNat : Int) := by rw [← add_W, IntKind.wrap_u32']
theorem xor_W (x y : W) : bits .xor .u32 (x.toNat : Int) (y.toNat : Int) = ((x ^^^ y).toNat : Int) := by
  rw [u32_xor_nat _ _ (toNat_lt x) (toNat_lt y), BitVec.toNat_xor]
theorem and_W (x y : W) : bits .and .u32 (x.toNat : Int) (y.toNat : Int) = ((x &&& y).toNat : Int) := by
  rw [u32_and_nat _ _ (toNat_lt x) (toNat_lt y), BitVec.toNat_and]
theorem or_W (x y : W) : bits .or .u32 (x.toNat : Int) (y.toNat : Int) = ((x ||| y).toNat : Int) := by
  rw [u32_or_nat _ _ (toNat_lt x) (toNat_lt y), BitVec.toNat_or]
theorem shr_W (x : W) (n : Nat) : (x.toNat : Int) / 2 ^ n = ((x >>> n).toNat : Int) := by
  rw [BitVec.toNat_ushiftRight, Nat.shiftRight_eq_div_pow]; norm_cast
theorem shl_W (x : W) (n : Nat) : IntKind.u32.wrap ((x.toNat : Int) * 2 ^ n) = ((x <<< n).toNat : Int) := by
  rw [IntKind.wrap_u32', BitVec.toNat_shiftLeft, Nat.shiftLeft_eq, Int.natCast_emod, Int.natCast_mul, Int.natCast_pow]; rfl

theorem shl_W' (x : W) (n : Nat) : (x.toNat : Int) * 2 ^ n % 4294967296 = ((x <<< n).toNat : Int) := by
  rw [← shl_W, IntKind.wrap_u32']

/-- Rotation: '-n', masked, is '32 - n'. -/
theorem rot_mask (n : Nat) (h1 : 1 ≤ n) (h2 : n ≤ 31) : bits .and .u64 (IntKind.u64.wrap (-(n : Int))) 31 = ((32 - n : Nat) : Int) := by
  have all : ∀ m : Fin 32, 1 ≤ m.val → bits .and .u64 (IntKind.u64.wrap (-(m.val : Int))) 31 = ((32 - m.val : Nat) : Int) := by decide +kernel
  exact all ⟨n, by omega⟩ h1
theorem rot_val (x : W) (n : Nat) (h2 : n ≤ 32) : bits .or .u32 ((x.toNat : Int) * 2 ^ (32 - n) % 4294967296) ((x.toNat : Int) / 2 ^ (32 - (32 - n))) = ((rotr x n).toNat : Int) := by
  rw [shl_W', shr_W, or_W, show 32 - (32 - n) = n by omega, rotr, BitVec.or_comm]

/-- What the function mix computes: the word rotated by each distance, joined by exclusive or. -/
def mixL (x : W) (l : List Nat) : W := l.foldl (fun y n => y ^^^ rotr x n) 0
theorem mixL_snoc (x : W) (l : List Nat) (n : Nat) : mixL x (l ++ [n]) = mixL x l ^^^ rotr x n := by simp [mixL]
theorem mixL_take (x : W) (l : List Nat) (k : Nat) (h : k < l.length) : mixL x (l.take (k + 1)) = mixL x (l.take k) ^^^ rotr x (l.getD k 0) := by
  rw [List.take_succ_eq_append_getElem h, mixL_snoc]; simp [List.getD, h]

theorem lenBytes_take (n j : Nat) (h : j < 8) : (lenBytes n).take (j + 1) = (lenBytes n).take j ++ [UInt8.ofNat (8 * n / 2 ^ (8 * (7 - j)) % 256)] := by
  have hl : j < (lenBytes n).length := by simp [lenBytes]; omega
  rw [List.take_succ_eq_append_getElem hl]
  simp [lenBytes]
theorem lenBytes_val (n j : Nat) (h : j < 8) : ((UInt8.ofNat (8 * n / 2 ^ (8 * (7 - j)) % 256)).toNat : Int) = (n : Int) * 8 / 2 ^ (56 - 8 * j) % 256 := by
  have e : 8 * (7 - j) = 56 - 8 * j := by omega
  rw [e, UInt8.toNat_ofNat', Nat.mod_mod_of_dvd _ (by decide), Int.natCast_emod, Int.natCast_ediv, Int.natCast_mul, Int.natCast_pow, Int.mul_comm]
  rfl

/-- Words as cells. -/
def wv (l : List W) : List Value := l.map fun x => Value.int .u32 x.toNat
theorem wv_length (l : List W) : (wv l).length = l.length := by simp [wv]
theorem wv_append (l m : List W) : wv (l ++ m) = wv l ++ wv m := by simp [wv]
theorem wv_one (l : List W) : ∀ u ∈ wv l, u.oneCell' = true := by
  intro u hu
  obtain ⟨_, _, rfl⟩ := List.mem_map.1 hu
  rfl
theorem wv_at (l : List W) (j : Nat) (h : j < l.length) : (wv l)[j]? = some (.int .u32 ((l.getD j 0).toNat : Int)) := by
  simp [wv, List.getElem?_map, List.getElem?_eq_getElem h, List.getD]

/-- The word t of a block, byte by byte. -/
def acc (b : List UInt8) (t : Nat) : Nat → W
  | 0 => 0
  | k + 1 => (acc b t k <<< 8) ||| byteW (b.getD (4 * t + k) 0)
theorem acc_four (b : List UInt8) (t : Nat) : acc b t 4 = word b t := by
  simp only [acc, word, BitVec.shiftLeft_or_distrib, ← BitVec.shiftLeft_add, Nat.add_zero]
  simp [BitVec.or_assoc]
theorem sched64_length (b : List UInt8) : (sched64 b).length = 64 := by
  rw [sched64_eq]
  have : ∀ t, (sched b t).length = t := fun t => by
    induction t with
    | zero => rfl
    | succ t ih => simp [sched, ih]
  exact this 64
theorem sched_length (b : List UInt8) (t : Nat) : (sched b t).length = t := by
  induction t with
  | zero => rfl
  | succ t ih => simp [sched, ih]
theorem byteW_toNat (c : UInt8) : ((byteW c).toNat : Int) = (c.toNat : Int) := by
  have := c.toNat_lt
  simp [byteW, BitVec.toNat_ofNat]
/-- The two ways to write the choice and the majority. -/
theorem ch_eq (e f g : W) : g ^^^ (e &&& (f ^^^ g)) = ch e f g := by
  apply BitVec.eq_of_getLsbD_eq
  intro i hi
  simp only [ch, BitVec.getLsbD_xor, BitVec.getLsbD_and, BitVec.getLsbD_not, hi, decide_true, Bool.true_and]
  cases e.getLsbD i <;> cases f.getLsbD i <;> cases g.getLsbD i <;> rfl
theorem maj_eq (a b c : W) : (a &&& b) ||| (c &&& (a ||| b)) = maj a b c := by
  apply BitVec.eq_of_getLsbD_eq
  intro i hi
  simp only [maj, BitVec.getLsbD_xor, BitVec.getLsbD_and, BitVec.getLsbD_or]
  cases a.getLsbD i <;> cases b.getLsbD i <;> cases c.getLsbD i <;> rfl
/-- Block j of a text. -/
def blk (p : List UInt8) (j : Nat) : List UInt8 := (p.drop (64 * j)).take 64
theorem blk_getD (p : List UInt8) (j i : Nat) (hi : i < 64) : (blk p j).getD i 0 = p.getD (64 * j + i) 0 := by
  simp [blk, List.getD, hi]
theorem acc_val (b : List UInt8) (t k : Nat) : bits .or .u32 (((acc b t k).toNat : Int) * 256 % 4294967296) (((b.getD (4 * t + k) 0).toNat : Int) % 4294967296) = ((acc b t (k + 1)).toNat : Int) := by
  have hlt : ((b.getD (4 * t + k) 0).toNat : Int) % 4294967296 = ((b.getD (4 * t + k) 0).toNat : Int) := by have := (b.getD (4 * t + k) 0).toNat_lt; omega
  rw [hlt, ← byteW_toNat, show ((acc b t k).toNat : Int) * 256 = ((acc b t k).toNat : Int) * 2 ^ 8 from rfl, shl_W', or_W]
  rfl
/-- The words of a block while they are being made: t are there, the next one is x. -/
def part (b : List UInt8) (t : Nat) (x : W) : List W := sched b t ++ x :: List.replicate (63 - t) 0
theorem part_length (b : List UInt8) (t : Nat) (x : W) (h : t < 64) : (part b t x).length = 64 := by simp [part, sched_length]; omega
theorem part_set (b : List UInt8) (t : Nat) (x y : W) : (part b t x).set t y = part b t y := by
  simp [part, sched_length]
theorem part_at (b : List UInt8) (t : Nat) (x : W) : (part b t x)[t]? = some x := by simp [part, sched_length]
theorem part_old (b : List UInt8) (t i : Nat) (x : W) (h : i < t) : (part b t x)[i]? = some ((sched b t).getD i 0) := by
  have hl : i < (sched b t).length := by rw [sched_length]; exact h
  rw [part, List.getElem?_append_left hl, List.getElem?_eq_getElem hl]
  simp [List.getD, hl]
theorem part_next (b : List UInt8) (t : Nat) (h : t < 63) : part b t (if t < 16 then word b t else nextW (sched b t) t) = part b (t + 1) 0 := by
  simp only [part, sched]
  rw [show 63 - t = (63 - (t + 1)) + 1 by omega, List.replicate_succ]
  simp
theorem part_last (b : List UInt8) : part b 63 (nextW (sched b 63) 63) = sched64 b := by rw [sched64_eq]; simp [part, sched]
theorem part_zero (b : List UInt8) : part b 0 0 = List.replicate 64 0 := by simp [part, sched, List.replicate_succ]
/-- The words after t steps, the rest still 0. -/
def made (b : List UInt8) (t : Nat) : List W := if t < 64 then part b t 0 else sched64 b
theorem made_succ (b : List UInt8) (t : Nat) (h : t < 64) : part b t (if t < 16 then word b t else nextW (sched b t) t) = made b (t + 1) := by
  unfold made
  by_cases h1 : t + 1 < 64
  · rw [if_pos h1]; exact part_next b t (by omega)
  · obtain rfl : t = 63 := by omega
    exact part_last b
theorem made_zero (b : List UInt8) : (Array.replicate 64 (Value.int .u32 0)).toList = wv (made b 0) := by
  rw [Array.toList_replicate, made, if_pos (by decide), part_zero, wv, List.map_replicate]; rfl
theorem wv_set (l : List W) (k : Nat) (x : W) : (wv l).set k (.int .u32 x.toNat) = wv (l.set k x) := by simp [wv, List.map_set]
theorem wv_get (l : List W) (k : Nat) (x : W) (h : l[k]? = some x) : (wv l)[k]? = some (.int .u32 x.toNat) := by simp [wv, h]
/-- What mix gives at the schedule. -/
def r0 (x : W) : W := rotr x 7 ^^^ rotr x 18
def r1 (x : W) : W := rotr x 17 ^^^ rotr x 19
theorem next_val (x16 x15 x7 x2 : W) :
    IntKind.u32.wrap (IntKind.u32.wrap (IntKind.u32.wrap ((x16.toNat : Int) + bits .xor .u32 ((r0 x15).toNat : Int) ((x15.toNat : Int) / 8)) + (x7.toNat : Int)) + bits .xor .u32 ((r1 x2).toNat : Int) ((x2.toNat : Int) / 1024)) =
      ((x16 + s0 x15 + x7 + s1 x2).toNat : Int) := by
  rw [show (8 : Int) = 2 ^ 3 from rfl, show (1024 : Int) = 2 ^ 10 from rfl, shr_W, shr_W, xor_W, xor_W, add_W, add_W, add_W]
  rfl
/-- The constants, as a list. -/
def Ks : List W := (List.range 64).map K
attribute [irreducible] Ks
theorem Ks_length : Ks.length = 64 := by unfold Ks; simp
theorem Ks_at (r : Nat) (h : r < 64) : (wv Ks).toArray[r]? = some (.int .u32 (K r).toNat) := by
  unfold Ks; simp [wv, h]
theorem V_at (v : V) (r : Nat) : (wv v.toList).toArray[r]? = (v.toList[r]?).map fun x => Value.int .u32 x.toNat := by simp [wv]
/-- One round, in the code's spelling. -/
def pW (h e f g k w : W) : W := h + S1 e + (g ^^^ (e &&& (f ^^^ g))) + k + w
def qW (a b c : W) : W := S0 a + ((a &&& b) ||| (c &&& (a ||| b)))
theorem p_val (h e f g k w : W) :
    IntKind.u32.wrap (IntKind.u32.wrap (IntKind.u32.wrap (IntKind.u32.wrap ((h.toNat : Int) + ((S1 e).toNat : Int)) + bits .xor .u32 (g.toNat : Int) (bits .and .u32 (e.toNat : Int) (bits .xor .u32 (f.toNat : Int) (g.toNat : Int)))) + (k.toNat : Int)) + (w.toNat : Int)) = ((pW h e f g k w).toNat : Int) := by
  rw [xor_W, and_W, xor_W, add_W, add_W, add_W, add_W]; rfl
theorem q_val (a b c : W) :
    IntKind.u32.wrap (((S0 a).toNat : Int) + bits .or .u32 (bits .and .u32 (a.toNat : Int) (b.toNat : Int)) (bits .and .u32 (c.toNat : Int) (bits .or .u32 (a.toNat : Int) (b.toNat : Int)))) = ((qW a b c).toNat : Int) := by
  rw [or_W, and_W, and_W, or_W, add_W]; rfl
theorem step_eq (a b c d e f g h k w : W) : step ⟨a, b, c, d, e, f, g, h⟩ k w = ⟨pW h e f g k w + qW a b c, a, b, c, d + pW h e f g k w, e, f, g⟩ := by
  simp only [step, pOf, qOf, pW, qW, ch_eq, maj_eq]
/-- The words while the block's are added. -/
def addL (h v : V) (i : Nat) : List W := ((h.toList.zipWith (· + ·) v.toList).take i) ++ h.toList.drop i
theorem lt8 {i : Nat} (h : i < 8) : i = 0 ∨ i = 1 ∨ i = 2 ∨ i = 3 ∨ i = 4 ∨ i = 5 ∨ i = 6 ∨ i = 7 := by omega
theorem addL_at (h v : V) (i : Nat) (hi : i < 8) : (addL h v i)[i]? = some (h.toList.getD i 0) := by
  rcases lt8 hi with rfl | rfl | rfl | rfl | rfl | rfl | rfl | rfl <;> rfl
theorem addL_set (h v : V) (i : Nat) (hi : i < 8) : (addL h v i).set i (h.toList.getD i 0 + v.toList.getD i 0) = addL h v (i + 1) := by
  rcases lt8 hi with rfl | rfl | rfl | rfl | rfl | rfl | rfl | rfl <;> rfl
theorem addL_all (h v : V) : addL h v 8 = (v.add h).toList := by
  show [h.a + v.a, h.b + v.b, h.c + v.c, h.d + v.d, h.e + v.e, h.f + v.f, h.g + v.g, h.h + v.h] = _
  simp only [V.add, V.toList, BitVec.add_comm]
theorem V_get (v : V) (i : Nat) (hi : i < 8) : (wv v.toList).toArray[i]? = some (.int .u32 (v.toList.getD i 0).toNat) := by
  rcases lt8 hi with rfl | rfl | rfl | rfl | rfl | rfl | rfl | rfl <;> rfl
end Go.Proofs.YtpdbcahiipbhnaaDoor.Sha
