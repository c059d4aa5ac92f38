/- Leaves that are set, in plain words: the sums above them, level by level. -/
import Derived.Test.YthnoiniadmmiiaaGreatPa6
set_option linter.unusedVariables false
set_option linter.unusedSimpArgs false
set_option linter.unusedSectionVars false
namespace Go.Proofs.YthnoiniadmmiiaaGreat
open Go

/-- Is a place above one of these leaves? -/
def aff (ks : List Nat) (d i : Nat) : Prop := ∃ k ∈ ks, k / 2 ^ d = i
abbrev Pl := Nat × Nat
section
variable {ks : List Nat} {D : Nat} {w : List (List UInt8)} {Q Q' : Pl → Prop} {last p : Pl} {done : List Pl} {cur : Nat → Nat → List UInt8}
end
/-! ### How many -/
end Go.Proofs.YthnoiniadmmiiaaGreat
