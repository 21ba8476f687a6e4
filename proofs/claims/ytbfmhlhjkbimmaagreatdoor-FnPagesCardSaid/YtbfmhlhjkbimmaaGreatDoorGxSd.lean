/- Library functions as plain Lean: a small number in decimal, joined texts. Conditions: none. -/
import Derived.Test.YtbfmhlhjkbimmaaGreatDoorGxHo
import Derived.Lib.ItoaNum
import Derived.Lib.Join
set_option linter.unusedVariables false
namespace Go.Gx
def itoaS (n : Int) : Option Str := if 0 ≤ n ∧ n < 100 then some (Lib.decDigits n.toNat) else none
def itoaF (n : Int) : Option Str := if -9223372036854775808 ≤ n ∧ n ≤ 9223372036854775807 then some (Lib.itoa n) else none
def joinS (l : List Str) (s : Str) : Option Str := if l.length ≤ 1000000 ∧ List.length (Lib.join l s) ≤ 1000000 then some (Lib.join l s) else none
end Go.Gx
