/- Sorting and compacting as plain Lean. Conditions: none. -/
import Derived.Test.YthidohmobbomfaaGreatGxHo
import Derived.Lib.SlicesCompact
set_option linter.unusedVariables false
namespace Go.Gx
def sortI (l:List Int):Option (List Int):=if l.length<4611686018427387904 then some (l.mergeSort fun x y=>decide (x≤y)) else none
def compactI (l:List Int):Option (List Int):=some (Lib.compact l)
end Go.Gx
