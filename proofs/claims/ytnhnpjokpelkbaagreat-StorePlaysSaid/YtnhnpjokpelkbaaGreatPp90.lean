/- Whatever is committed and read, whenever the power goes, and whatever others write, a store answers and stands, and does of the device, what the chapter says: the statement 'garderobelaw15.StorePlays', of every input. -/
import Derived.Test.YtnhnpjokpelkbaaGreatRows
import Derived.Test.YtnhnpjokpelkbaaGreatPp89
import Derived.Test.YtnhnpjokpelkbaaGreatPp45
set_option linter.unusedVariables false
namespace Go.Proofs.YtnhnpjokpelkbaaGreat
theorem storePlays_holds:Rows.StorePlaysSaid:=aZZ9 aCQ
end Go.Proofs.YtnhnpjokpelkbaaGreat
