/- The memory that lasts: Tamper, Pending, Image; and one that is not there. -/
import Derived.Test.YthnoiniadmmiiaaGreatPa19
set_option linter.unusedVariables false
set_option linter.unusedSimpArgs false
set_option linter.unusedSectionVars false
namespace Go.Proofs.YthnoiniadmmiiaaGreat
open Go
attribute [local irreducible] SW SL SQ SH SA SS Pu Fin CutF HandF

end Go.Proofs.YthnoiniadmmiiaaGreat
