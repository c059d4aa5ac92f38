/- Whatever is formatted, opened, committed and befalls, of any geometry, what is found, what is answered, and what is done of the device, is as the chapter says: the statement 'garderobelaw16.MendPlays', of every input. -/
import Derived.Test.YtdfclocfackkmaaGreatPm82
import Derived.Test.YtdfclocfackkmaaGreatPm44
import Derived.Test.YtdfclocfackkmaaGreatPm45
set_option linter.unusedVariables false
set_option maxHeartbeats 1000000
namespace Go.Proofs.YtdfclocfackkmaaGreat
theorem mendPlays_holds:Rows.MendPlaysSaid:=aCF aDj
end Go.Proofs.YtdfclocfackkmaaGreat
