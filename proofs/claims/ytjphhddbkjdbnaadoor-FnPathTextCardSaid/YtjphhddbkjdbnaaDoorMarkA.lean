/- Own text: part MarkA. -/
import Derived.Test.YtjphhddbkjdbnaaDoorTypes2
import Derived.Test.YtjphhddbkjdbnaaDoorTextA
import Derived.Test.YtjphhddbkjdbnaaDoorBaseE
set_option linter.unusedVariables false
set_option linter.unusedSimpArgs false
namespace Go.T44
set_option linter.unusedSectionVars false
variable [Go.Vg.Glob]
open Go.Proofs Go.Vg Go.RowKit Go.TT Go.Pl Go.T8
set_option linter.unusedVariables false
set_option linter.unusedSimpArgs false
set_option maxRecDepth 10000
set_option maxHeartbeats 4000000
end Go.T44
