/- What is asked of a translation's types and functions. -/
import Derived.WalkKit
import Derived.Deep.MidRow
set_option linter.unusedVariables false
namespace Go.Proofs.YtieamijnajbcnaaGreat
open Go
/-! ### What is asked of types -/
class ScalarTy (P : Program) (t : TypeId) : Prop where
  ok : ∃ d, P.underlying t = some d ∧ d.isRow = false
class RowTy (P : Program) (t : TypeId) (n : outParam Nat) : Prop where
  ok : ∃ d, P.underlying t = some d ∧ d.isRow = true
  size : (P.info? t).map (·.size) = some n
class FieldTy (P : Program) (s : TypeId) (i : Nat) (t : outParam TypeId) (off : outParam Nat) : Prop where
  ok : ∃ fs f, P.underlying s = some (.struct fs) ∧ fs[i]? = some f ∧ f.offset = off ∧ f.type = t
  nz : ∃ m, (P.info? t).map (·.size) = some m ∧ m ≠ 0
class SliceTy (P : Program) (t : TypeId) (e : outParam TypeId) (n : outParam Nat) : Prop where
  ok : P.underlying t = some (.slice e)
  size : (P.info? e).map (·.size) = some n
class ArrTy (P : Program) (t : TypeId) (len : outParam Nat) (e : outParam TypeId) (n : outParam Nat) : Prop where
  ok : P.underlying t = some (.array len e)
  size : (P.info? e).map (·.size) = some n
/-- The cells of the zero value. -/
class ZeroTy (P : Program) (t : TypeId) (z : outParam (List Value)) : Prop where
  ok : ∃ v, ((P.info? t).map fun i => i.zero) = some (some v) ∧ v.cells = z.toArray


class PtrTy (P : Program) (t : TypeId) : Prop where
  ok : ∃ e, P.underlying t = some (.pointer e)

/-- A type of one cell. -/
class OneTy (P : Program) (t : TypeId) : Prop where
  size : (P.info? t).map (·.size) = some 1
class IsFn (P : Program) (f : FuncId) : Prop where
  ok : ∃ fn, P.funcs[f]? = some fn ∧ (fn.name == "runtime.NumGoroutine") = false ∧ fn.body.isNone = false
class StructTy (P : Program) (t : TypeId) (pl : outParam (List (Nat × Nat))) : Prop where
  ok : ∃ fs, P.underlying t = some (.struct fs) ∧ fs.toList.map (fun f => ((P.info? f.type).map (·.size)).map fun n => (f.offset, n)) = pl.map some


class NInt (P : Program) (t : TypeId) : Prop where
  ok : (∃ e, P.underlying t = some (.slice e)) ∨ P.underlying t = some .string
/-- How many bytes an element takes. -/
class BytesTy (P : Program) (t : TypeId) (n : outParam Nat) : Prop where
  ok : (P.info? t).map (·.bytes) = some n


class StrTy (P : Program) (t : TypeId) : Prop where
  ok : P.underlying t = some .string
class BoolTy (P : Program) (t : TypeId) : Prop where
  ok : P.underlying t = some .bool
class IntTy (P : Program) (t : TypeId) (k : outParam IntKind) : Prop where
  ok : P.underlying t = some (.int k)

end Go.Proofs.YtieamijnajbcnaaGreat
