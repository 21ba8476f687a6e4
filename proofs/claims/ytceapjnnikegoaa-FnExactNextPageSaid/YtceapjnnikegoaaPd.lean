/- Plain laws: lists of facts, sources. Conditions: none. -/
import Derived.Test.YtceapjnnikegoaaPc
set_option linter.unusedVariables false
set_option linter.unusedSimpArgs false
namespace Go.Gx.Px
def nthF (l : List Fa) (i : Nat) : Fa := l.getD i (0, [])
theorem idx_nthF (l : List Fa) {i : Nat} (h : i < l.length) : idx l (i : Int) = some (nthF l i) := by rw [idx_nat l h]; unfold nthF; simp [h]
theorem nthF_mem {l : List Fa} {i : Nat} (h : i < l.length) : nthF l i ∈ l := by unfold nthF; simp [h]
/-- fact i is one, and behind the one ahead of it -/
def factAt (s : List Int) (l : List Fa) (i : Nat) : Bool := factOk s (nthF l i) && !(decide (0 < i) && decide (0 ≤ cmpF (nthF l (i - 1)) (nthF l i)))
def factsOk (s : List Int) (l : List Fa) : Bool := (List.range l.length).all (factAt s l) && (schOk s && decide ((l.length : Int) ≤ 24))
theorem AreFacts_S (s : List Int) (l : List Fa) (hs : SZ.sm s) (hl : SZ.sm l) : S.AreFacts s l = some (factsOk s l) := by
  obtain ⟨h1, h2⟩ := hl
  have h0 := hs.1
  have h3 : ∀ i, i < l.length → (nthF l i).2.length ≤ 4294967296 := fun i hi => by have := (h2 _ (nthF_mem hi)).2.1; omega
  unfold S.AreFacts
  rw [all_loopN (S.AreFacts_l1 l s) l.length (factAt s l) false (by omega) (fun k => by rw [S.AreFacts_l1, if_neg (by simp)]) (fun k i hi => by
    rw [S.AreFacts_l1, if_pos (by simpa using hi), idx_nthF l hi, Option.bind_some, IsFact_S s _ (by omega) (h3 i hi), Option.bind_some, w64_succ (by omega)]
    unfold factAt
    cases h4 : factOk s (nthF l i)
    · simp
    · by_cases h5 : 0 < i
      · rw [w64_pred h5 (by omega), idx_nthF l (show i - 1 < l.length by omega)]
        simp only [Option.bind_some, CompareFacts_S _ _ (h3 (i - 1) (by omega)) (h3 i hi)]
        by_cases h6 : 0 ≤ cmpF (nthF l (i - 1)) (nthF l i) <;> simp [h5, h6]
      · simp [h5]), IsSchema_S s (by omega)]
  unfold factsOk
  cases (List.range l.length).all (factAt s l)
  · rfl
  · cases schOk s <;> simp
theorem AreFacts_M (s : List Int) (l : List Fa) (hs : SZ.sm s) (hl : SZ.sm l) : M.AreFacts s l = some (factsOk s l) := by
  obtain ⟨h1, h2⟩ := hl
  have h0 := hs.1
  have h3 : ∀ i, i < l.length → (nthF l i).2.length ≤ 4294967296 := fun i hi => by have := (h2 _ (nthF_mem hi)).2.1; omega
  unfold M.AreFacts
  rw [all_loopN (M.AreFacts_l1 l s) l.length (factAt s l) false (by omega) (fun k => by rw [M.AreFacts_l1, if_neg (by simp)]) (fun k i hi => by
    rw [M.AreFacts_l1, if_pos (by simpa using hi), idx_nthF l hi, Option.bind_some, IsFact_M s _ (by omega) (h3 i hi), Option.bind_some, w64_succ (by omega)]
    unfold factAt
    cases h4 : factOk s (nthF l i)
    · simp
    · by_cases h5 : 0 < i
      · rw [w64_pred h5 (by omega), idx_nthF l (show i - 1 < l.length by omega)]
        have h7 := CompareFacts_M _ _ (h3 (i - 1) (by omega)) (h3 i hi)
        simp only [Option.bind_some, h7]
        by_cases h6 : 0 ≤ cmpF (nthF l (i - 1)) (nthF l i) <;> simp [h5, h6]
      · simp [h5]), IsSchema_M s (by omega)]
  unfold factsOk
  cases (List.range l.length).all (factAt s l)
  · rfl
  · cases schOk s <;> simp
end Go.Gx.Px
