/- Over all Opens, Formats and Commits, whatever befalls, no two unlike blocks are sealed with one epoch and number: the statement 'garderobelaw16.MendOnce', of every input. -/
import Derived.Test.YtdfclocfackkmaaGreatPm80
import Derived.Test.YtdfclocfackkmaaGreatPm44
import Derived.Test.YtdfclocfackkmaaGreatPm45
set_option linter.unusedVariables false
set_option maxHeartbeats 1000000
namespace Go.Proofs.YtdfclocfackkmaaGreat
theorem mendOnce_holds:Rows.MendOnceSaid:=aDi aEy
end Go.Proofs.YtdfclocfackkmaaGreat
