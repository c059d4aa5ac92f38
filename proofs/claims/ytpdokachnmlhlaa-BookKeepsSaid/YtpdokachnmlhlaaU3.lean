/- The table in plain words: primes, and the roots' bits. -/
import Derived.Test.YtpdokachnmlhlaaU2
set_option linter.unusedVariables false
set_option linter.unusedSimpArgs false
namespace Go.Proofs.Ytpdokachnmlhlaa
open Go
namespace Sha
/-- The upper half of a product, as it is reckoned. -/
def mw0 (x y : UInt64) : UInt64 := (x &&& (4294967295 : UInt64)) * (y &&& (4294967295 : UInt64))
def mt (x y : UInt64) : UInt64 := (x >>> (32 : UInt64)) * (y &&& (4294967295 : UInt64)) + (mw0 x y >>> (32 : UInt64))
def mw1 (x y : UInt64) : UInt64 := (mt x y &&& (4294967295 : UInt64)) + (x &&& (4294967295 : UInt64)) * (y >>> (32 : UInt64))
def mulHi (x y : UInt64) : UInt64 := (x >>> (32 : UInt64)) * (y >>> (32 : UInt64)) + (mt x y >>> (32 : UInt64)) + (mw1 x y >>> (32 : UInt64))
def squareB (p x : UInt64) : Bool := decide ((mulHi x x).toNat < p.toNat ∨ (mulHi x x).toNat = p.toNat ∧ (x * x).toNat = 0)
def cubeH (x : UInt64) : UInt64 := mulHi (x * x) x + mulHi x x * x
def cubeB (p x : UInt64) : Bool := decide ((cubeH x).toNat < (p <<< (32 : UInt64)).toNat ∨ (cubeH x).toNat = (p <<< (32 : UInt64)).toNat ∧ (x * x * x).toNat = 0)
/-- The bit that is tried when so many are left. -/
def bt (k : Nat) : UInt64 := UInt64.ofNat (2 ^ k / 2)
def srch (f : UInt64 → Bool) : Nat → UInt64 → UInt64
  | 0, x => x
  | k + 1, x => srch f k (if f (x ||| bt (k + 1)) then x ||| bt (k + 1) else x)
/-- As above, each step reckoned at once. -/
def srchN (f : UInt64 → Bool) : Nat → Nat → UInt64
  | 0, x => UInt64.ofNat x
  | k + 1, 0 => srchN f k (if f (UInt64.ofNat 0 ||| bt (k + 1)) then (UInt64.ofNat 0 ||| bt (k + 1)).toNat else 0)
  | k + 1, x + 1 => srchN f k (if f (UInt64.ofNat (x + 1) ||| bt (k + 1)) then (UInt64.ofNat (x + 1) ||| bt (k + 1)).toNat else x + 1)
theorem srch_N (f : UInt64 → Bool) : ∀ (k : Nat) (x : UInt64), srch f k x = srchN f k x.toNat
  | 0, x => by simp [srch, srchN]
  | k + 1, x => by
    have e : srchN f (k + 1) x.toNat = srchN f k (if f (x ||| bt (k + 1)) then (x ||| bt (k + 1)).toNat else x.toNat) := by
      cases h : x.toNat with
      | zero =>
        have : x = UInt64.ofNat 0 := by rw [← h]; simp
        subst this; rfl
      | succ n =>
        have : x = UInt64.ofNat (n + 1) := by rw [← h]; simp
        conv => lhs; unfold srchN
        rw [← this]
    rw [e]
    show srch f k _ = _
    rw [srch_N f k]
    congr 1
    split <;> rfl
def primeL : List Nat := [2, 3, 5, 7, 11, 13, 17, 19, 23, 29, 31, 37, 41, 43, 47, 53, 59, 61, 67, 71, 73, 79, 83, 89, 97, 101, 103, 107, 109, 113, 127, 131, 137, 139, 149, 151, 157, 163, 167, 173, 179, 181, 191, 193, 197, 199, 211, 223, 227, 229, 233, 239, 241, 251, 257, 263, 269, 271, 277, 281, 283, 293, 307, 311]
def primeB (n : Nat) : Bool := (List.range n).all fun d => !(decide (2 ≤ d) && decide (d * d ≤ n) && n % d == 0)
def primeA (n : Nat) : Bool := (List.range n).all fun d => !(decide (2 ≤ d) && n % d == 0)
def cntP (n : Nat) : Nat := primeL.countP (· ≤ n)
set_option maxRecDepth 100000 in
theorem cnt_step : ∀ n, n < 311 → 1 ≤ n → cntP (n + 1) = cntP n + if primeB (n + 1) then 1 else 0 := by decide +kernel
set_option maxRecDepth 100000 in
theorem prime_AB : ∀ n, n < 312 → primeA n = primeB n := by decide +kernel
set_option maxRecDepth 100000 in
theorem cnt_at : ∀ k, k < 64 → cntP (primeL.getD k 0) = k + 1 ∧ cntP (primeL.getD k 0 - 1) = k ∧ 2 ≤ primeL.getD k 0 ∧ primeL.getD k 0 ≤ 311 := by decide +kernel
theorem cnt_mono {a b : Nat} (h : a ≤ b) : cntP a ≤ cntP b := List.countP_mono_left fun x _ hx => by simp at hx ⊢; omega
theorem cnt_1 : cntP 1 = 0 := by decide +kernel
theorem cnt_lt {k n : Nat} (hk : k < 64) (hn : n < primeL.getD k 0) : cntP n ≤ k := by
  rw [← (cnt_at k hk).2.1]; exact cnt_mono (by omega)
set_option maxRecDepth 100000 in
theorem tabK_N : (primeL.map fun p => (srchN (cubeB (UInt64.ofNat p)) 38 0).toUInt32) = tabK := by decide +kernel
set_option maxRecDepth 100000 in
theorem tabH_N : ((primeL.take 8).map fun p => (srchN (squareB (UInt64.ofNat p)) 38 0).toUInt32) = [ini.a, ini.b, ini.c, ini.d, ini.e, ini.f, ini.g, ini.h] := by decide +kernel
def tabH : List UInt32 := [ini.a, ini.b, ini.c, ini.d, ini.e, ini.f, ini.g, ini.h]
theorem tabK_at {k : Nat} (hk : k < 64) : tabK.getD k 0 = (srch (cubeB (UInt64.ofNat (primeL.getD k 0))) 38 0).toUInt32 := by
  rw [srch_N, ← tabK_N]
  have hl : primeL.length = 64 := rfl
  simp [List.getD, List.getElem?_map, List.getElem?_eq_getElem (show k < primeL.length by omega)]
theorem tabH_at {k : Nat} (hk : k < 8) : tabH.getD k 0 = (srch (squareB (UInt64.ofNat (primeL.getD k 0))) 38 0).toUInt32 := by
  have hl : primeL.length = 64 := rfl
  rw [srch_N]
  show ([ini.a, ini.b, ini.c, ini.d, ini.e, ini.f, ini.g, ini.h] : List UInt32).getD k 0 = _
  rw [← tabH_N]
  simp [List.getD, List.getElem?_map, List.getElem?_take, hk, List.getElem?_eq_getElem (show k < primeL.length by omega)]
theorem bt_half : ∀ k, k < 38 → bt (k + 1) >>> (1 : UInt64) = bt k ∧ (bt (k + 1)).toNat ≠ 0 := by decide +kernel
end Sha
end Go.Proofs.Ytpdokachnmlhlaa
