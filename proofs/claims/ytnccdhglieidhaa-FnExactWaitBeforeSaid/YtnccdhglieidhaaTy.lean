/- The types of the seat, as the library wants them. Conditions: none. -/
import Derived.Test.YtnccdhglieidhaaGxF
import Derived.Test.YtnccdhglieidhaaProg
set_option linter.unusedVariables false
set_option linter.unusedSimpArgs false
namespace Go.Gx.Px
open Go.Proofs
theorem hmix : Try.prog.follows .mixedOrders = true := by kernel_rfl
end Go.Gx.Px
