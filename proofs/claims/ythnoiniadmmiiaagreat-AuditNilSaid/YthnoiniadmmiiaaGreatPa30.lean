/- What is put, logged and found, in plain words. -/
import Derived.Test.YthnoiniadmmiiaaGreatPa21
import Derived.Test.YthnoiniadmmiiaaGreatPa23
import Derived.Test.YthnoiniadmmiiaaGreatPa29
set_option linter.unusedVariables false
set_option linter.unusedSimpArgs false
set_option linter.unusedSectionVars false
namespace Go.Proofs.YthnoiniadmmiiaaGreat
open Go

/-! ### A log -/
/-! ### What is found -/
def sumsB (l : List (List UInt8)) : List (List UInt8) := l.mapIdx fun k b => Sha.sum (leafT k b)
def leafsB (l : List (List UInt8)) : List (List UInt8) := l.mapIdx fun k b => leafT k b
def rootB (l : List (List UInt8)) : List UInt8 := rootV (sumsB l)
theorem sumsB_len (l : List (List UInt8)) : (sumsB l).length = l.length := by unfold sumsB; simp
theorem sumsB_32 (l : List (List UInt8)) : D32 (sumsB l) := fun x hx => by
  unfold sumsB at hx
  obtain ⟨i, h, rfl⟩ := List.mem_mapIdx.1 hx
  exact Sha.sum_len _
def fitsB (p t : Nat) (root : List UInt8) (l : List (List UInt8)) : Bool := decide (rootB l = root) && decide (superB p t = l.getD 0 [])
/-! ### Steps of a device -/
abbrev DS := Dv → Int × Dv
def DS.and (a b : DS) : DS := fun σ => if (a σ).1 = 0 then b (a σ).2 else a σ
def stS (x : Nat) (bs : List UInt8) : DS := fun σ => (σ.actR x bs.length, σ.store x bs)
def flS (x n : Nat) : DS := fun σ => (σ.actR x n, σ.flush x n)
def feS : DS := fun σ => (σ.actR 0 0, σ.fence)
def putS (k : Nat) (bs : List UInt8) : DS := (stS (256 * k) bs).and (flS (256 * k) bs.length)
def putL : List (Nat × List UInt8) → DS
  | [] => fun σ => (0, σ)
  | x :: r => (putS x.1 x.2).and (putL r)
def scrubS (k n : Nat) : DS := (putS k (List.replicate (256 * n) 0)).and feS
theorem putL_app (a b : List (Nat × List UInt8)) : putL (a ++ b) = (putL a).and (putL b) := by
  induction a with
  | nil => funext σ; simp [putL, DS.and]
  | cons x r ih =>
    funext σ
    rw [List.cons_append, putL, putL, ih]
    unfold DS.and
    by_cases h : (putS x.1 x.2 σ).1 = 0
    · simp only [h, if_true]
    · simp only [h, if_false]
/-- Blocks from one on. -/
def rowL (k : Nat) (l : List (List UInt8)) : List (Nat × List UInt8) := l.mapIdx fun i b => (k + i, b)
/-! ### Steps of a device and a register -/
abbrev TS := Dv × Rg → Int × (Dv × Rg)
def TS.and (a b : TS) : TS := fun σ => if (a σ).1 = 0 then b (a σ).2 else a σ
def DS.t (a : DS) : TS := fun σ => ((a σ.1).1, (a σ.1).2, σ.2)
def regS (r' : Rg) : TS := fun σ => (setE σ.1 σ.2 r', setD σ.1 σ.2 r', setR σ.1 σ.2 r')
def bumpS : TS := fun σ => regS { σ.2 with c := σ.2.c + 1 } σ
/-- The blocks of a new store. -/
def blanks (p t : Nat) (X : UInt64 → Nat → List UInt8 → List UInt8) (e : UInt64) : List (List UInt8) :=
  superB p t :: ((List.range (Gm.epochs p)).map (fun k => epB k (List.replicate (Gm.sealed p) e)) ++ (List.range (Gm.sealed p)).map fun k => X e k (List.replicate 256 0))
/-- All blocks, for good. -/
def wholeD (l : List (List UInt8)) : DS := (putL (rowL 0 l)).and feS
def wholeS (p t : Nat) (l : List (List UInt8)) : DS := (wholeD l).and (scrubS (Gm.leaves p) (1 + t))
/-- The register holds the root of blocks, and a count that is one more. -/
def cntS (l : List (List UInt8)) : TS := fun x => regS ⟨x.2.c + 1, rootB l⟩ x
def fmtS (p t : Nat) (X : UInt64 → Nat → List UInt8 → List UInt8) : TS := fun σ =>
  if 18446744073709551613 < σ.2.c then (21, σ) else
  (bumpS.and ((wholeS p t (blanks p t X (UInt64.ofNat (σ.2.c + 2).toNat))).t.and (cntS (blanks p t X (UInt64.ofNat (σ.2.c + 2).toNat))))) σ
def Dv.blks (σ : Dv) (a n : Nat) : List (List UInt8) := (List.range n).map fun k => σ.blk (a + k)
end Go.Proofs.YthnoiniadmmiiaaGreat
