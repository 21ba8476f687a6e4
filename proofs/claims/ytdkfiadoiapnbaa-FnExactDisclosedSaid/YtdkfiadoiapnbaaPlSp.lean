/- Plain laws: looking for an element, printed by program. Conditions: none. -/
import Derived.Test.YtdkfiadoiapnbaaPlL
set_option linter.unusedVariables false
set_option linter.unusedSimpArgs false
namespace Go.Gx.Px
end Go.Gx.Px
