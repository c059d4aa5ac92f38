/- SHA-256 in plain words. -/
import Derived.Test.YtpdokachnmlhlaaU1
set_option linter.unusedVariables false
set_option linter.unusedSimpArgs false
namespace Go.Proofs.Ytpdokachnmlhlaa
open Go

/-- Eight words. -/
structure S8 where
  a : UInt32
  b : UInt32
  c : UInt32
  d : UInt32
  e : UInt32
  f : UInt32
  g : UInt32
  h : UInt32
deriving DecidableEq
namespace Sha
def rotr (x k : UInt32) : UInt32 := (x >>> k) ||| (x <<< (32 - k))
def s0 (x : UInt32) : UInt32 := rotr x 7 ^^^ rotr x 18 ^^^ (x >>> 3)
def s1 (x : UInt32) : UInt32 := rotr x 17 ^^^ rotr x 19 ^^^ (x >>> 10)
def S0 (x : UInt32) : UInt32 := rotr x 2 ^^^ rotr x 13 ^^^ rotr x 22
def S1 (x : UInt32) : UInt32 := rotr x 6 ^^^ rotr x 11 ^^^ rotr x 25
def ch (e f g : UInt32) : UInt32 := (e &&& f) ^^^ (~~~e &&& g)
def maj (a b c : UInt32) : UInt32 := (a &&& b) ^^^ (a &&& c) ^^^ (b &&& c)
def t1 (s : S8) (k w : UInt32) : UInt32 := s.h + S1 s.e + ch s.e s.f s.g + k + w
def t2 (s : S8) : UInt32 := S0 s.a + maj s.a s.b s.c
def rnd (s : S8) (k w : UInt32) : S8 := ⟨t1 s k w + t2 s, s.a, s.b, s.c, s.d + t1 s k w, s.e, s.f, s.g⟩
def be (b : List UInt8) : UInt32 := b.foldl (fun v c => (v <<< 8) ||| c.toUInt32) 0
/-- The first words of a block's schedule. -/
def sch (b : List UInt8) : Nat → List UInt32
  | 0 => []
  | t + 1 => sch b t ++ [if t < 16 then be ((b.drop (4 * t)).take 4) else s1 ((sch b t).getD (t - 2) 0) + (sch b t).getD (t - 7) 0 + s0 ((sch b t).getD (t - 15) 0) + (sch b t).getD (t - 16) 0]
theorem sch_len (b : List UInt8) (t : Nat) : (sch b t).length = t := by
  induction t with
  | zero => rfl
  | succ t ih => simp [sch, ih]
def tabK : List UInt32 := [
    0x428a2f98, 0x71374491, 0xb5c0fbcf, 0xe9b5dba5, 0x3956c25b, 0x59f111f1, 0x923f82a4, 0xab1c5ed5,
    0xd807aa98, 0x12835b01, 0x243185be, 0x550c7dc3, 0x72be5d74, 0x80deb1fe, 0x9bdc06a7, 0xc19bf174,
    0xe49b69c1, 0xefbe4786, 0x0fc19dc6, 0x240ca1cc, 0x2de92c6f, 0x4a7484aa, 0x5cb0a9dc, 0x76f988da,
    0x983e5152, 0xa831c66d, 0xb00327c8, 0xbf597fc7, 0xc6e00bf3, 0xd5a79147, 0x06ca6351, 0x14292967,
    0x27b70a85, 0x2e1b2138, 0x4d2c6dfc, 0x53380d13, 0x650a7354, 0x766a0abb, 0x81c2c92e, 0x92722c85,
    0xa2bfe8a1, 0xa81a664b, 0xc24b8b70, 0xc76c51a3, 0xd192e819, 0xd6990624, 0xf40e3585, 0x106aa070,
    0x19a4c116, 0x1e376c08, 0x2748774c, 0x34b0bcb5, 0x391c0cb3, 0x4ed8aa4a, 0x5b9cca4f, 0x682e6ff3,
    0x748f82ee, 0x78a5636f, 0x84c87814, 0x8cc70208, 0x90befffa, 0xa4506ceb, 0xbef9a3f7, 0xc67178f2]
def ini : S8 := ⟨0x6a09e667, 0xbb67ae85, 0x3c6ef372, 0xa54ff53a, 0x510e527f, 0x9b05688c, 0x1f83d9ab, 0x5be0cd19⟩
def rnds (s : S8) (b : List UInt8) : Nat → S8
  | 0 => s
  | t + 1 => rnd (rnds s b t) (tabK.getD t 0) ((sch b 64).getD t 0)
def plus (s r : S8) : S8 := ⟨s.a + r.a, s.b + r.b, s.c + r.c, s.d + r.d, s.e + r.e, s.f + r.f, s.g + r.g, s.h + r.h⟩
def blk (s : S8) (b : List UInt8) : S8 := plus s (rnds s b 64)
def absN : Nat → S8 → List UInt8 → S8 × List UInt8
  | 0, s, m => (s, m)
  | n + 1, s, m => absN n (blk s (m.take 64)) (m.drop 64)
/-- All whole blocks, and what is left. -/
def absorb (s : S8) (m : List UInt8) : S8 × List UInt8 := absN (m.length / 64) s m
theorem absorb_lt {s : S8} {m : List UInt8} (h : m.length < 64) : absorb s m = (s, m) := by
  unfold absorb; rw [Nat.div_eq_of_lt h]; rfl
theorem absorb_ge {s : S8} {m : List UInt8} (h : 64 ≤ m.length) : absorb s m = absorb (blk s (m.take 64)) (m.drop 64) := by
  unfold absorb
  rw [show m.length / 64 = (m.drop 64).length / 64 + 1 by simp; omega]; rfl
theorem absorb_app (k : List UInt8) : ∀ (n : Nat) (s : S8) (m : List UInt8), m.length ≤ n → absorb s (m ++ k) = absorb (absorb s m).1 ((absorb s m).2 ++ k)
  | n, s, m, hn => by
    by_cases h : 64 ≤ m.length
    · rw [absorb_ge (m := m ++ k) (by simp; omega), absorb_ge h, List.take_append_of_le_length h, List.drop_append_of_le_length h]
      cases n with
      | zero => omega
      | succ n => exact absorb_app k n _ _ (by simp; omega)
    · rw [absorb_lt (by omega : m.length < 64)]
theorem absorb_len : ∀ (n : Nat) (s : S8) (m : List UInt8), m.length ≤ n → (absorb s m).2.length = m.length % 64
  | n, s, m, hn => by
    by_cases h : 64 ≤ m.length
    · rw [absorb_ge h]
      cases n with
      | zero => omega
      | succ n => rw [absorb_len n _ _ (by simp; omega)]; simp; omega
    · rw [absorb_lt (by omega)]; simp; omega
/-- One more block behind whole blocks. -/
theorem absorb_blk {s : S8} {m c : List UInt8} (hm : m.length % 64 = 0) (hc : c.length = 64) : absorb s (m ++ c) = (blk (absorb s m).1 c, []) := by
  have hl := absorb_len _ s m (Nat.le_refl _)
  rw [hm] at hl
  rw [absorb_app c _ _ _ (Nat.le_refl _), List.eq_nil_of_length_eq_zero hl, List.nil_append, absorb_ge (by omega), List.take_of_length_le (by omega), List.drop_eq_nil_of_le (by omega), absorb_lt (by decide)]
/-- Bytes of a number, the highest first. -/
def beN (n v : Nat) : List UInt8 := (List.range n).map fun k => UInt8.ofNat (v / 256 ^ (n - 1 - k))
theorem beN_len (n v : Nat) : (beN n v).length = n := by simp [beN]
def padN (n : Nat) : List UInt8 := 0x80 :: (List.replicate ((119 - n % 64) % 64) 0 ++ beN 8 (8 * n))
theorem padN_len (n : Nat) : (n + (padN n).length) % 64 = 0 := by
  simp [padN, beN_len]; omega
def outB (s : S8) : List UInt8 := beN 4 s.a.toNat ++ (beN 4 s.b.toNat ++ (beN 4 s.c.toNat ++ (beN 4 s.d.toNat ++ (beN 4 s.e.toNat ++ (beN 4 s.f.toNat ++ (beN 4 s.g.toNat ++ beN 4 s.h.toNat))))))
theorem outB_len (s : S8) : (outB s).length = 32 := by simp [outB, beN_len]
/-- The sum of bytes. -/
def sum (m : List UInt8) : List UInt8 := outB (absorb ini (m ++ padN m.length)).1
theorem sum_len (m : List UInt8) : (sum m).length = 32 := outB_len _
set_option maxRecDepth 100000 in
theorem sum_abc : sum [97, 98, 99] = [0xBA, 0x78, 0x16, 0xBF, 0x8F, 0x01, 0xCF, 0xEA, 0x41, 0x41, 0x40, 0xDE, 0x5D, 0xAE, 0x22, 0x23, 0xB0, 0x03, 0x61, 0xA3, 0x96, 0x17, 0x7A, 0x9C, 0xB4, 0x10, 0xFF, 0x61, 0xF2, 0x00, 0x15, 0xAD] := by decide +kernel
end Sha
end Go.Proofs.Ytpdokachnmlhlaa
