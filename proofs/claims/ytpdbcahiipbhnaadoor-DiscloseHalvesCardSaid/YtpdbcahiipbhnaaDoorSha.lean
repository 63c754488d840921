/- Plain mathematics of the digest (SHA-256), no program in sight: the words, the schedule, the rounds, the padding, the digits. -/
import Derived.Laws.BitsAllLaws
namespace Go.Proofs.YtpdbcahiipbhnaaDoor.Sha

abbrev W := BitVec 32

def rotr (x : W) (n : Nat) : W := (x >>> n) ||| (x <<< (32 - n))
def s0 (x : W) : W := rotr x 7 ^^^ rotr x 18 ^^^ (x >>> 3)
def s1 (x : W) : W := rotr x 17 ^^^ rotr x 19 ^^^ (x >>> 10)
def S1 (e : W) : W := rotr e 6 ^^^ rotr e 11 ^^^ rotr e 25
def S0 (a : W) : W := rotr a 2 ^^^ rotr a 13 ^^^ rotr a 22
def ch (e f g : W) : W := (e &&& f) ^^^ (~~~e &&& g)
def maj (a b c : W) : W := (a &&& b) ^^^ (a &&& c) ^^^ (b &&& c)

def KN : List Nat := [
  0x428a2f98, 0x71374491, 0xb5c0fbcf, 0xe9b5dba5, 0x3956c25b, 0x59f111f1, 0x923f82a4, 0xab1c5ed5,
  0xd807aa98, 0x12835b01, 0x243185be, 0x550c7dc3, 0x72be5d74, 0x80deb1fe, 0x9bdc06a7, 0xc19bf174,
  0xe49b69c1, 0xefbe4786, 0x0fc19dc6, 0x240ca1cc, 0x2de92c6f, 0x4a7484aa, 0x5cb0a9dc, 0x76f988da,
  0x983e5152, 0xa831c66d, 0xb00327c8, 0xbf597fc7, 0xc6e00bf3, 0xd5a79147, 0x06ca6351, 0x14292967,
  0x27b70a85, 0x2e1b2138, 0x4d2c6dfc, 0x53380d13, 0x650a7354, 0x766a0abb, 0x81c2c92e, 0x92722c85,
  0xa2bfe8a1, 0xa81a664b, 0xc24b8b70, 0xc76c51a3, 0xd192e819, 0xd6990624, 0xf40e3585, 0x106aa070,
  0x19a4c116, 0x1e376c08, 0x2748774c, 0x34b0bcb5, 0x391c0cb3, 0x4ed8aa4a, 0x5b9cca4f, 0x682e6ff3,
  0x748f82ee, 0x78a5636f, 0x84c87814, 0x8cc70208, 0x90befffa, 0xa4506ceb, 0xbef9a3f7, 0xc67178f2]
def K (t : Nat) : W := BitVec.ofNat 32 (KN.getD t 0)

structure V where
  a : W
  b : W
  c : W
  d : W
  e : W
  f : W
  g : W
  h : W

def init : V := ⟨0x6a09e667#32, 0xbb67ae85#32, 0x3c6ef372#32, 0xa54ff53a#32, 0x510e527f#32, 0x9b05688c#32, 0x1f83d9ab#32, 0x5be0cd19#32⟩

/-- Word t of 64 bytes. -/
def byteW (c : UInt8) : W := BitVec.ofNat 32 c.toNat
def word (b : List UInt8) (t : Nat) : W := (byteW (b.getD (4 * t) 0) <<< 24) ||| (byteW (b.getD (4 * t + 1) 0) <<< 16) ||| (byteW (b.getD (4 * t + 2) 0) <<< 8) ||| byteW (b.getD (4 * t + 3) 0)

/-- The next word of the schedule. -/
def nextW (l : List W) (t : Nat) : W := l.getD (t - 16) 0 + s0 (l.getD (t - 15) 0) + l.getD (t - 7) 0 + s1 (l.getD (t - 2) 0)
/-- The first t words of the schedule of a block. -/
def sched (b : List UInt8) : Nat → List W
  | 0 => []
  | t + 1 => let l := sched b t; l ++ [if t < 16 then word b t else nextW l t]

/-- The whole schedule of a block (kept shut: a walk must not lay it open). -/
@[irreducible] def sched64 (b : List UInt8) : List W := sched b 64
theorem sched64_eq (b : List UInt8) : sched64 b = sched b 64 := by unfold sched64; rfl
def pOf (v : V) (k w : W) : W := v.h + S1 v.e + ch v.e v.f v.g + k + w
def qOf (v : V) : W := S0 v.a + maj v.a v.b v.c
def step (v : V) (k w : W) : V := ⟨pOf v k w + qOf v, v.a, v.b, v.c, v.d + pOf v k w, v.e, v.f, v.g⟩
def rounds (ws : List W) (v : V) : Nat → V
  | 0 => v
  | t + 1 => step (rounds ws v t) (K t) (ws.getD t 0)
@[irreducible] def rounds64 (ws : List W) (v : V) : V := rounds ws v 64
theorem rounds64_eq (ws : List W) (v : V) : rounds64 ws v = rounds ws v 64 := by unfold rounds64; rfl
def V.add (x y : V) : V := ⟨x.a + y.a, x.b + y.b, x.c + y.c, x.d + y.d, x.e + y.e, x.f + y.f, x.g + y.g, x.h + y.h⟩
def block (h : V) (b : List UInt8) : V := (rounds64 (sched64 b) h).add h

def zeros (n : Nat) : Nat := (119 - n % 64) % 64
def lenBytes (n : Nat) : List UInt8 := (List.range 8).map fun i => UInt8.ofNat (8 * n / 2 ^ (8 * (7 - i)) % 256)
def pad (s : List UInt8) : List UInt8 := s ++ [128] ++ List.replicate (zeros s.length) 0 ++ lenBytes s.length
/-- n blocks, from the head. -/
def blocks (b : List UInt8) : Nat → V
  | 0 => init
  | n + 1 => block (blocks b n) ((b.drop (64 * n)).take 64)
def sum (s : List UInt8) : V := blocks (pad s) ((pad s).length / 64)

def V.toList (v : V) : List W := [v.a, v.b, v.c, v.d, v.e, v.f, v.g, v.h]
/-- A digit. -/
def dig (n : Nat) : UInt8 := if n < 10 then UInt8.ofNat (48 + n) else UInt8.ofNat (87 + n)
def hexW (x : W) : List UInt8 := (List.range 8).map fun i => dig (x.toNat / 16 ^ (7 - i) % 16)
def hex (s : List UInt8) : List UInt8 := ((sum s).toList.map hexW).flatten
/-- The first 60 bits. -/
def top (s : List UInt8) : Nat := (sum s).a.toNat * 2 ^ 28 + (sum s).b.toNat / 16
def number (s : List UInt8) (m : Int) : Int := if m < 1 then 0 else (top s : Int) % m

attribute [irreducible] sum hex top number

theorem pad_length (s : List UInt8) : (pad s).length = s.length + 9 + zeros s.length := by
  simp [pad, lenBytes]; omega
theorem pad_mod (s : List UInt8) : (pad s).length % 64 = 0 := by
  rw [pad_length]; unfold zeros; omega
theorem hexW_length (x : W) : (hexW x).length = 8 := by simp [hexW]
theorem hex_length (s : List UInt8) : (hex s).length = 64 := by
  unfold hex; simp [V.toList, hexW_length]

/-! ### The heads of the statements: fixed examples, by the kernel -/
theorem hex_empty : hex [] = "e3b0c44298fc1c149afbf4c8996fb92427ae41e4649b934ca495991b7852b855".toUTF8.data.toList := by decide +kernel
theorem hex_abc : hex [97, 98, 99] = "ba7816bf8f01cfea414140de5dae2223b00361a396177a9cb410ff61f20015ad".toUTF8.data.toList := by decide +kernel

end Go.Proofs.YtpdbcahiipbhnaaDoor.Sha
