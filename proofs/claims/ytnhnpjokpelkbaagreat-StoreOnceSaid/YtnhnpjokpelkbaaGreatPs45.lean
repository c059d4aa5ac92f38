/- What the last texts of StoreNil, StoreReads, StoreAddresses, StorePoison lean on (for pack.py alone). -/
import Derived.Test.YtnhnpjokpelkbaaGreatPs40
import Derived.Test.YtnhnpjokpelkbaaGreatPs30
import Derived.Test.YtnhnpjokpelkbaaGreatPs6
import Derived.Test.YtnhnpjokpelkbaaGreatPs8
import Derived.Test.YtnhnpjokpelkbaaGreatPs3
set_option linter.unusedVariables false
set_option linter.unusedSimpArgs false
set_option linter.unusedSectionVars false
set_option maxHeartbeats 1000000
namespace Go.Proofs.YtnhnpjokpelkbaaGreat
open Go
end Go.Proofs.YtnhnpjokpelkbaaGreat
