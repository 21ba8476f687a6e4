/- Operations of a region that draws, in whatever order, some of which may still wait when the others are done. Conditions: none. -/
import Derived.Test.YtdkfiadoiapnbaaGreatGxW
set_option linter.unusedVariables false
set_option linter.unusedSimpArgs false
namespace Go.Gx
open Go.RowKit
section
variable {P : Program} {n : Nat}
end
end Go.Gx
