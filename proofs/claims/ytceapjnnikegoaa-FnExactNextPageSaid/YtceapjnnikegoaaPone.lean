/- Plain laws: a fact is made. Conditions: none. -/
import Derived.Test.YtceapjnnikegoaaPn
set_option linter.unusedVariables false
set_option linter.unusedSimpArgs false
namespace Go.Gx.Px
theorem l2One_eq (r : Int) (v : List Int) (h : v.length ≤ 1048576) : S.l2One r v = some (r, v) := by
  unfold S.l2One; rw [app_eq _ _ (by simp; omega)]; rfl
end Go.Gx.Px
