/- The order of places; which leaves there are. -/
import Derived.Test.YthnoiniadmmiiaaGreatPa12
import Derived.Test.YthnoiniadmmiiaaGreatPa38
import Derived.Test.YthnoiniadmmiiaaGreatPa39
set_option linter.unusedVariables false
set_option linter.unusedSimpArgs false
set_option linter.unusedSectionVars false
namespace Go.Proofs.YthnoiniadmmiiaaGreat
open Go
attribute [local irreducible] SW SL SQ SH SA SS Pu Fin CutF HandF
open Pq

end Go.Proofs.YthnoiniadmmiiaaGreat
/- Leaves that are set. -/
namespace Go.Proofs.YthnoiniadmmiiaaGreat
open Go
attribute [local irreducible] SW SL SQ SH SA SS Pu Fin CutF HandF
open Pq

end Go.Proofs.YthnoiniadmmiiaaGreat
