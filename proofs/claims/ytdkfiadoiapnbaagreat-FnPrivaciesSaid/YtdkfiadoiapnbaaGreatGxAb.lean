/- Appending to great lists of integers: plain Lean. Conditions: none. -/
import Derived.Test.YtdkfiadoiapnbaaGreatGxHo
set_option linter.unusedVariables false
namespace Go.Gx
def appB {α : Type} (as bs : List α) : Option (List α) := if as.length + bs.length ≤ 1099511627776 then some (as ++ bs) else none
end Go.Gx
