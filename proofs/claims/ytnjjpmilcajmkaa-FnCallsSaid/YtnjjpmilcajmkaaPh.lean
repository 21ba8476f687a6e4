/- Plain laws: is a number in a list? Conditions: none. -/
import Derived.Test.YtnjjpmilcajmkaaPn
set_option linter.unusedVariables false
set_option linter.unusedSimpArgs false
namespace Go.Gx.Px
def hasI (l : List Int) (x : Int) : Bool := l.any fun e => decide (e = x)
theorem l2Has_eq (l : List Int) (x : Int) (h : l.length ≤ 1048576) : S.l2Has l x = some (hasI l x) := by
  unfold S.l2Has hasI
  rw [any_loop (S.l2Has_l1 l x) l (fun e => decide (e = x)) true (by omega) (fun k => by rw [S.l2Has_l1, if_neg (by simp)]) (fun k i hi => by
    rw [S.l2Has_l1, if_pos (by simpa using hi), idx_nat l hi, Option.bind_some, w64_succ (by omega)])]
  cases l.any (fun e => decide (e = x)) <;> rfl
end Go.Gx.Px
