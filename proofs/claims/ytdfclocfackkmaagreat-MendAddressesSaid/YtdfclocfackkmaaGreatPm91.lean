/- How many acts an Open that is OK does of the device hangs on the geometry, and on whether it is for writing, alone: the statement 'garderobelaw16.MendAddresses', of every input. -/
import Derived.Test.YtdfclocfackkmaaGreatPm81
import Derived.Test.YtdfclocfackkmaaGreatPm44
import Derived.Test.YtdfclocfackkmaaGreatPm45
set_option linter.unusedVariables false
set_option maxHeartbeats 1000000
namespace Go.Proofs.YtdfclocfackkmaaGreat
theorem mendAddresses_holds:Rows.MendAddressesSaid:=zC aAo
end Go.Proofs.YtdfclocfackkmaaGreat
