/- Plain laws: the frame of the laws at each type, printed by program. Conditions: none. -/
import Derived.Test.YthidohmobbomfaaGreatPlL
set_option linter.unusedVariables false
set_option linter.unusedSimpArgs false
namespace Go.Gx.Px
end Go.Gx.Px
