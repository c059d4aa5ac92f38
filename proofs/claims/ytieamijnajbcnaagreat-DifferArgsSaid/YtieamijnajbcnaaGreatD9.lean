/- The document's path; the root that a leaf and its path lead to. -/
import Derived.Test.YtieamijnajbcnaaGreatD8
set_option linter.unusedVariables false
set_option linter.unusedSimpArgs false
namespace Go.Proofs.YtieamijnajbcnaaGreat
open Go
attribute [local irreducible] SW SL SQ SH SA SS Pu Fin CutF HandF

end Go.Proofs.YtieamijnajbcnaaGreat
