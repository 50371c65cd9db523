/-
  SHA-256 in plain Lean, over bytes and words of 32 bits: what the program and the document's reference both come to.
-/
import Derived.Test.YtmacgmmjgdmleaaNum
namespace Go.Proofs.Ytmacgmmjgdmleaa.Sha

/-- x turned right by a. -/
def rotr (x : UInt32) (a : Nat) : UInt32 := UInt32.ofNat ((x.toNat / 2 ^ a) ||| (x.toNat * 2 ^ (32 - a) % 4294967296))
def shr (x : UInt32) (a : Nat) : UInt32 := UInt32.ofNat (x.toNat / 2 ^ a)
theorem rotr_toNat (x : UInt32) (a : Nat) : (rotr x a).toNat = (x.toNat / 2 ^ a) ||| (x.toNat * 2 ^ (32 - a) % 4294967296) := by
  have hx := x.toNat_lt
  have h1 : x.toNat / 2 ^ a < 2 ^ 32 := Nat.lt_of_le_of_lt (Nat.div_le_self _ _) hx
  have h2 : x.toNat * 2 ^ (32 - a) % 4294967296 < 2 ^ 32 := Nat.mod_lt _ (by decide)
  have h3 := Nat.or_lt_two_pow h1 h2
  rw [rotr, UInt32.toNat_ofNat']
  exact Nat.mod_eq_of_lt h3
theorem shr_toNat (x : UInt32) (a : Nat) : (shr x a).toNat = x.toNat / 2 ^ a := by
  have hx := x.toNat_lt
  have h1 : x.toNat / 2 ^ a < 2 ^ 32 := Nat.lt_of_le_of_lt (Nat.div_le_self _ _) hx
  rw [shr, UInt32.toNat_ofNat']
  exact Nat.mod_eq_of_lt h1
def mix (x : UInt32) (a b c : Nat) : UInt32 := rotr x a ^^^ rotr x b ^^^ shr x c
def turns (x : UInt32) (a b c : Nat) : UInt32 := rotr x a ^^^ rotr x b ^^^ rotr x c
/-- A round's number. -/
def K : List UInt32 := [
  0x428a2f98, 0x71374491, 0xb5c0fbcf, 0xe9b5dba5, 0x3956c25b, 0x59f111f1, 0x923f82a4, 0xab1c5ed5,
  0xd807aa98, 0x12835b01, 0x243185be, 0x550c7dc3, 0x72be5d74, 0x80deb1fe, 0x9bdc06a7, 0xc19bf174,
  0xe49b69c1, 0xefbe4786, 0x0fc19dc6, 0x240ca1cc, 0x2de92c6f, 0x4a7484aa, 0x5cb0a9dc, 0x76f988da,
  0x983e5152, 0xa831c66d, 0xb00327c8, 0xbf597fc7, 0xc6e00bf3, 0xd5a79147, 0x06ca6351, 0x14292967,
  0x27b70a85, 0x2e1b2138, 0x4d2c6dfc, 0x53380d13, 0x650a7354, 0x766a0abb, 0x81c2c92e, 0x92722c85,
  0xa2bfe8a1, 0xa81a664b, 0xc24b8b70, 0xc76c51a3, 0xd192e819, 0xd6990624, 0xf40e3585, 0x106aa070,
  0x19a4c116, 0x1e376c08, 0x2748774c, 0x34b0bcb5, 0x391c0cb3, 0x4ed8aa4a, 0x5b9cca4f, 0x682e6ff3,
  0x748f82ee, 0x78a5636f, 0x84c87814, 0x8cc70208, 0x90befffa, 0xa4506ceb, 0xbef9a3f7, 0xc67178f2]
def kAt (t : Nat) : UInt32 := K.getD t 0
/-- The words of a block: the first sixteen, then one more each time. -/
def word (b : List UInt8) (i : Nat) : UInt32 :=
  UInt32.ofNat ((b.getD (4 * i) 0).toNat * 16777216 ||| (b.getD (4 * i + 1) 0).toNat * 65536 ||| (b.getD (4 * i + 2) 0).toNat * 256 ||| (b.getD (4 * i + 3) 0).toNat)
def first (b : List UInt8) (k : Nat) : List UInt32 := (List.range k).map (word b)
def more (l : List UInt32) (t : Nat) : UInt32 := l.getD (t - 16) 0 + mix (l.getD (t - 15) 0) 7 18 3 + l.getD (t - 7) 0 + mix (l.getD (t - 2) 0) 17 19 10
def upto (b : List UInt8) : Nat → List UInt32
  | 0 => first b 16
  | k + 1 => upto b k ++ [more (upto b k) (16 + k)]
theorem upto_length (b : List UInt8) (k : Nat) : (upto b k).length = 16 + k := by
  induction k with
  | zero => simp [upto, first]
  | succ k ih => simp [upto, ih]; omega
def words (b : List UInt8) : List UInt32 := upto b 48
theorem words_length (b : List UInt8) : (words b).length = 64 := upto_length b 48
/-- Eight words that turn. -/
structure S8 where
  a : UInt32
  b : UInt32
  c : UInt32
  d : UInt32
  e : UInt32
  f : UInt32
  g : UInt32
  h : UInt32
def S8.x (s : S8) (k w : UInt32) : UInt32 := s.h + turns s.e 6 11 25 + ((s.e &&& s.f) ^^^ (~~~ s.e &&& s.g)) + k + w
def S8.y (s : S8) : UInt32 := turns s.a 2 13 22 + ((s.a &&& s.b) ^^^ (s.a &&& s.c) ^^^ (s.b &&& s.c))
def S8.step (s : S8) (k w : UInt32) : S8 := ⟨s.x k w + s.y, s.a, s.b, s.c, s.d + s.x k w, s.e, s.f, s.g⟩
def S8.run (s : S8) (l : List UInt32) : Nat → S8
  | 0 => s
  | t + 1 => (s.run l t).step (kAt t) (l.getD t 0)
def S8.add (s t : S8) : S8 := ⟨s.a + t.a, s.b + t.b, s.c + t.c, s.d + t.d, s.e + t.e, s.f + t.f, s.g + t.g, s.h + t.h⟩
def S8.list (s : S8) : List UInt32 := [s.a, s.b, s.c, s.d, s.e, s.f, s.g, s.h]
def block (s : S8) (b : List UInt8) : S8 := s.add (s.run (words b) 64)
def begun : S8 := ⟨0x6a09e667, 0xbb67ae85, 0x3c6ef372, 0xa54ff53a, 0x510e527f, 0x9b05688c, 0x1f83d9ab, 0x5be0cd19⟩
/-- The words behind whole blocks. -/
def fold (s : S8) (l : List UInt8) : Nat → S8
  | 0 => s
  | k + 1 => block (fold s l k) ((l.drop (64 * k)).take 64)
def hash (l : List UInt8) : S8 := fold begun l (l.length / 64)
theorem fold_append (s : S8) (l m : List UInt8) (k : Nat) (h : 64 * k ≤ l.length) : fold s (l ++ m) k = fold s l k := by
  induction k with
  | zero => rfl
  | succ k ih =>
    rw [fold, fold, ih (by omega), List.drop_append_of_le_length (by omega), List.take_append_of_le_length (by rw [List.length_drop]; omega)]
/-- What is written behind bytes so that whole blocks come of it. -/
def zeros (n : Nat) : Nat := (119 - n % 64) % 64
def be8 (n : Nat) : List UInt8 := (List.range 8).map fun i => UInt8.ofNat (n / 2 ^ (56 - 8 * i))
def pad (l : List UInt8) : List UInt8 := l ++ [0x80] ++ List.replicate (zeros l.length) 0 ++ be8 (8 * l.length)
def byteOf (s : S8) (i : Nat) : UInt8 := UInt8.ofNat ((s.list.getD (i / 4) 0).toNat / 2 ^ (24 - 8 * (i % 4)))
def bytesOf (s : S8) : List UInt8 := (List.range 32).map (byteOf s)
/-- The digest. -/
def sum (l : List UInt8) : List UInt8 := bytesOf (hash (pad l))
theorem hash_eq (l : List UInt8) : hash l = fold begun l (l.length / 64) := rfl
theorem sum_length (l : List UInt8) : (sum l).length = 32 := by simp [sum, bytesOf]
theorem upto_zero (b : List UInt8) : upto b 0 = first b 16 := rfl
theorem upto_succ (b : List UInt8) (k : Nat) : upto b (k + 1) = upto b k ++ [more (upto b k) (16 + k)] := rfl
theorem words_eq (b : List UInt8) : words b = upto b 48 := rfl
theorem run_zero (s : S8) (l : List UInt32) : s.run l 0 = s := rfl
theorem run_succ (s : S8) (l : List UInt32) (t : Nat) : s.run l (t + 1) = (s.run l t).step (kAt t) (l.getD t 0) := rfl
theorem fold_zero (s : S8) (l : List UInt8) : fold s l 0 = s := rfl
theorem fold_succ (s : S8) (l : List UInt8) (k : Nat) : fold s l (k + 1) = block (fold s l k) ((l.drop (64 * k)).take 64) := rfl
theorem block_eq (s : S8) (b : List UInt8) : block s b = s.add (s.run (words b) 64) := rfl
theorem pad_length (l : List UInt8) : (pad l).length % 64 = 0 := by
  simp [pad, zeros, be8]
  omega
attribute [irreducible] upto words S8.run fold block hash
end Go.Proofs.Ytmacgmmjgdmleaa.Sha
