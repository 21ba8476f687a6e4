/- Plain laws: copies of facts. Conditions: none. -/
import Derived.Test.YtceapjnnikegoaaPn
set_option linter.unusedVariables false
set_option linter.unusedSimpArgs false
namespace Go.Gx.Px
theorem clone_eq (a : List Int) (h : a.length ≤ 1048576) : Slices.Clone_Lint_int a = some a := by
  unfold Slices.Clone_Lint_int; rw [app_eq _ _ (by simp; omega)]; rfl
theorem copyFact_eq (e : Fa) (h : e.2.length ≤ 1048576) : M.copyFact e = some e := by
  unfold M.copyFact; rw [clone_eq _ h]; rfl
theorem copyFacts_id (a : List Fa) (h : SZ.sm a) : M.copyFacts a = some a := by
  obtain ⟨ha, he⟩ := h
  unfold M.copyFacts
  rw [map_loop (M.copyFacts_l1 a) a id (by omega) (fun k x => by rw [M.copyFacts_l1, if_neg (by simp)]) (fun k x i hi hl => by
    rw [M.copyFacts_l1, if_pos (by simpa using hi), idx_nat a hi]
    simp only [Option.bind_some]
    rw [copyFact_eq _ (he _ (List.getElem_mem hi)).2.1, Option.bind_some, app_eq _ _ (by simp; omega), Option.bind_some, w64_succ (by omega)]
    rfl)]
  simp
end Go.Gx.Px
