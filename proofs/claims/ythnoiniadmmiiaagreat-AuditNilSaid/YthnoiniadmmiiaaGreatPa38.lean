/- The rows that the library keeps as a heap. The library's heap. The queue. What the queue does. -/
import Derived.Test.YthnoiniadmmiiaaGreatPa0
import Derived.Test.YthnoiniadmmiiaaGreatPa37
set_option linter.unusedVariables false
set_option linter.unusedSimpArgs false
set_option linter.unusedSectionVars false
namespace Go.Proofs.YthnoiniadmmiiaaGreat
open Go
attribute [local irreducible] SW SL SQ SH SA SS Pu Fin CutF HandF
open Pq

/-- What the order's function does. -/
def LessF (fl : FuncId) (less : Int × Int → Int × Int → Bool) : Prop := ∀ x y : Int × Int, Tri Tryz.prog fl [.agg [(.int .i64 x.1 : Value), .int .i64 x.2].toArray, .agg [(.int .i64 y.1 : Value), .int .i64 y.2].toArray] [] (fun _ => True) (fun v H => v = .bool (less x y) ∧ H = [])
end Go.Proofs.YthnoiniadmmiiaaGreat

namespace Go.Proofs.YthnoiniadmmiiaaGreat
open Go
attribute [local irreducible] SW SL SQ SH SA SS Pu Fin CutF HandF
open Pq

section
variable {fl : FuncId} [hfl : IsFn Tryz.prog fl] {less : Int × Int → Int × Int → Bool} (hO : Ord (Int × Int) less) (hL : LessF fl less)
include hO hL
end
end Go.Proofs.YthnoiniadmmiiaaGreat

namespace Go.Proofs.YthnoiniadmmiiaaGreat
open Go
attribute [local irreducible] SW SL SQ SH SA SS Pu Fin CutF HandF
open Pq

section
variable {fl : FuncId} [hfl : IsFn Tryz.prog fl] {less : Int × Int → Int × Int → Bool} (hO : Ord (Int × Int) less) (hL : LessF fl less)
include hO hL
end
end Go.Proofs.YthnoiniadmmiiaaGreat

namespace Go.Proofs.YthnoiniadmmiiaaGreat
open Go
attribute [local irreducible] SW SL SQ SH SA SS Pu Fin CutF HandF
open Pq

def tc (x : Int × Int) : List Value := [.int .i64 x.1, .int .i64 x.2]
section
variable {fl : FuncId} [hfl : IsFn Tryz.prog fl] {less : Int × Int → Int × Int → Bool} (hO : Ord (Int × Int) less) (hL : LessF fl less)
include hO hL
end
end Go.Proofs.YthnoiniadmmiiaaGreat
