/- Plain laws: copies of accesses. Conditions: none. -/
import Derived.Test.YtceapjnnikegoaaPcp
import Derived.Test.YtceapjnnikegoaaPe
set_option linter.unusedVariables false
set_option linter.unusedSimpArgs false
namespace Go.Gx.Px
theorem access_S (a : Ac) (h : a.2.length ≤ 1048576) : S.l8Access a.1 a.2 = some a := by
  unfold S.l8Access; rw [app_eq _ _ (by simp; omega)]; rfl
theorem access_M (a : Ac) (h : a.2.length ≤ 1048576) : M.copyAccess a = some a := by
  unfold M.copyAccess; rw [clone_eq _ h]; rfl
end Go.Gx.Px
