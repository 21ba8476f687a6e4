/- Plain laws: a fact among facts. Conditions: none. -/
import Derived.Test.YtkcdlbgpodogcaaPc
set_option linter.unusedVariables false
set_option linter.unusedSimpArgs false
namespace Go.Gx.Px
theorem cmpL_anti : ∀ (a b : List Int), cmpL b a = - cmpL a b
  | [], [] => rfl
  | [], _ :: _ => rfl
  | _ :: _, [] => rfl
  | x :: a, y :: b => by
    unfold cmpL
    by_cases h : x < y
    · have : ¬ y < x := by omega
      simp [h, this]
    · by_cases h2 : y < x
      · simp [h, h2]
      · simp only [h, h2, if_false]; exact cmpL_anti a b
theorem cmpF_anti (a b : Fa) : cmpF b a = - cmpF a b := by
  unfold cmpF
  by_cases h : a.1 < b.1
  · have : ¬ b.1 < a.1 := by omega
    simp [h, this]
  · by_cases h2 : b.1 < a.1
    · simp [h, h2]
    · simp only [h, h2, if_false]; exact cmpL_anti _ _
def hasF (l : List Fa) (f : Fa) : Bool := l.any fun e => decide (cmpF e f = 0)
theorem sm_v {l : List Fa} (h : SZ.sm l) {e : Fa} (he : e ∈ l) : e.2.length ≤ 4294967296 := by have := (h.2 e he).2.1; omega
theorem HasFact_S (l : List Fa) (f : Fa) (hl : SZ.sm l) (hf : SZ.sm f) : S.HasFact l f = some (hasF l f) := by
  have h1 := hl.1
  have h2 := hf.2.1
  unfold S.HasFact hasF
  rw [any_loop (S.HasFact_l1 l f) l (fun e => decide (cmpF e f = 0)) true (by omega) (fun k => by rw [S.HasFact_l1, if_neg (by simp)]) (fun k i hi => by
    have := CompareFacts_S l[i] f (sm_v hl (List.getElem_mem hi)) (by omega)
    rw [S.HasFact_l1, if_pos (by simpa using hi), idx_nat l hi, Option.bind_some, show (f.1, f.2) = f from rfl, this, Option.bind_some, w64_succ (by omega)])]
  cases l.any (fun e => decide (cmpF e f = 0)) <;> rfl
theorem HasFact_M (l : List Fa) (f : Fa) (hl : SZ.sm l) (hf : SZ.sm f) : M.HasFact l f = some (hasF l f) := by
  have h1 := hl.1
  have h2 := hf.2.1
  unfold M.HasFact hasF
  rw [show (f.1, f.2) = f from rfl, Slices_ContainsFunc_Limpl_Fact_impl_Fact_M_HasFact_c1_eq l f (fun e => decide (cmpF e f = 0)) (by omega) (fun e he => by
    unfold M.HasFact_c1; rw [show (e.1, e.2) = e from rfl, CompareFacts_M e f (sm_v hl he) (by omega)]; rfl)]; rfl
end Go.Gx.Px
