/- Plain laws of the pure functions: the wait before a call. Conditions: none. -/
import Derived.Test.YtnccdhglieidhaaPure
import Derived.Test.YtnccdhglieidhaaGxG
set_option linter.unusedVariables false
set_option linter.unusedSimpArgs false
namespace Go.Gx.Px

theorem p_FnExactWaitBefore (a1 : Int) (h : Rng.r a1) : Q.FnExactWaitBefore a1 = some true := by
  unfold Q.FnExactWaitBefore S.WaitBefore M.WaitBefore nn
  by_cases h1 : a1 < 1
  · simp [h1]
  · by_cases h2 : 6 < a1
    · simp only [h1, h2, decide_false, decide_true, if_true]; decide +kernel
    · simp [h1, h2, show 0 ≤ a1 by omega]
end Go.Gx.Px
