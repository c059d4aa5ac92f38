/- Registers that are compared; chapter 9's example. -/
import Derived.Test.YthnoiniadmmiiaaGreatPa19
import Derived.Test.YthnoiniadmmiiaaGreatPa5
set_option linter.unusedVariables false
set_option linter.unusedSimpArgs false
set_option linter.unusedSectionVars false
namespace Go.Proofs.YthnoiniadmmiiaaGreat
open Go
attribute [local irreducible] SW SL SQ SH SA Pu Fin

/-! ### TrustNil -/
end Go.Proofs.YthnoiniadmmiiaaGreat
/- The count only rises: the walk. -/
namespace Go.Proofs.YthnoiniadmmiiaaGreat
open Go
attribute [local irreducible] SW SL SQ SH SA Pu Fin

end Go.Proofs.YthnoiniadmmiiaaGreat
