/- Plain laws: sources. Conditions: none. -/
import Derived.Test.YtceapjnnikegoaaPd
set_option linter.unusedVariables false
set_option linter.unusedSimpArgs false
namespace Go.Gx.Px
abbrev So := List Fa × Int
def srcOk (s : List Int) (x : So) : Bool := factsOk s x.1 && inR x.2 0 1000
theorem IsSource_S (s : List Int) (x : So) (hs : SZ.sm s) (hx : SZ.sm x) : S.IsSource s x = some (srcOk s x) := by
  unfold S.IsSource srcOk
  rw [AreFacts_S s x.1 hs hx.1, inS]
  cases factsOk s x.1 <;> simp
theorem IsSource_M (s : List Int) (x : So) (hs : SZ.sm s) (hx : SZ.sm x) : M.IsSource s x = some (srcOk s x) := by
  unfold M.IsSource srcOk
  rw [AreFacts_M s x.1 hs hx.1, inM]
  cases factsOk s x.1 <;> simp
theorem same_IsSource (s : List Int) (x : So) (z1 : SZ.sz s ≤ 1048576) (z2 : SZ.sz x ≤ 1048576) (_ : Rng.r s) (_ : Rng.r x) : ∃ r, S.IsSource s x = some r ∧ M.IsSource s x = some r ∧ SZ.sm r :=
  ⟨_, IsSource_S s x (sm_of z1) (sm_of z2), IsSource_M s x (sm_of z1) (sm_of z2), trivial⟩
end Go.Gx.Px
