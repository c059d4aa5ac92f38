/- What a store has, and what a Commit and a Read do, in plain words. -/
import Derived.Test.YthnoiniadmmiiaaGreatPa34
import Derived.Test.YthnoiniadmmiiaaGreatPa40
set_option linter.unusedVariables false
set_option linter.unusedSimpArgs false
set_option linter.unusedSectionVars false
namespace Go.Proofs.YthnoiniadmmiiaaGreat
open Go

/-- A store: its epochs, the leaves' sums, may it be written, its state. -/
structure So where
  es : List UInt64
  lv : List (List UInt8)
  w : Bool
  st : Int
end Go.Proofs.YthnoiniadmmiiaaGreat
