/- The Go functions as pure Lean functions, printed by program. Conditions: none. -/
import Derived.Test.YtnccdhglieidhaaGxF
set_option linter.unusedVariables false
namespace Go.Gx.Px

def S.WaitBefore (a1 : Int) : Option Int :=
  if (decide (a1 < 1)) then
    some 0
  else
    if (decide (6 < a1)) then
      some 64
    else
      (nn a1).bind fun _ =>
      some (shl 1 a1)

def M.WaitBefore (a1 : Int) : Option Int :=
  if (decide (a1 < 1)) then
    some 0
  else
    (nn (if 6 < a1 then 6 else a1)).bind fun _ =>
    some (shl 1 (if 6 < a1 then 6 else a1))

def Q.FnExactWaitBefore (a1 : Int) : Option Bool :=
  (S.WaitBefore a1).bind fun x1 =>
  (M.WaitBefore a1).bind fun x2 =>
  if (!decide (x2 = x1)) then
    some false
  else
    some true

end Go.Gx.Px
