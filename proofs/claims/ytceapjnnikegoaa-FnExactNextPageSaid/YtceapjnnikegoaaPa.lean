/- Plain laws: ranges, copies of facts. Conditions: none. -/
import Derived.Test.YtceapjnnikegoaaPcp
import Derived.Test.YtceapjnnikegoaaPone
set_option linter.unusedVariables false
set_option linter.unusedSimpArgs false
namespace Go.Gx.Px
theorem l2Copy_id (a : List Fa) (h : SZ.sm a) : S.l2Copy a = some a := by
  obtain ⟨ha, he⟩ := h
  unfold S.l2Copy
  rw [map_loop (S.l2Copy_l1 a) a id (by omega) (fun k x => by rw [S.l2Copy_l1, if_neg (by simp)]) (fun k x i hi hl => by
    rw [S.l2Copy_l1, if_pos (by simpa using hi), idx_nat a hi]
    simp only [Option.bind_some]
    rw [l2One_eq _ _ (he _ (List.getElem_mem hi)).2.1, Option.bind_some, app_eq _ _ (by simp; omega), Option.bind_some, w64_succ (by omega)]
    rfl)]
  simp
end Go.Gx.Px
