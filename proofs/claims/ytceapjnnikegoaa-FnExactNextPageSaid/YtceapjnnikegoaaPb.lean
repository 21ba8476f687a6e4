/- Plain laws: pages. Conditions: none. -/
import Derived.Test.YtceapjnnikegoaaPa
set_option linter.unusedVariables false
set_option linter.unusedSimpArgs false
namespace Go.Gx.Px
/-- the page at an offset, and what comes next -/
def pageEnd (a : List Fa) (o n : Int) : Int := if o + n < (List.length a : Int) then o + n else (List.length a : Int)
def pageOf (a : List Fa) (o n : Int) : List Fa × Int × Bool :=
  if inR n 1 9 && inR o 0 (List.length a : Int) then ((a.take (pageEnd a o n).toNat).drop o.toNat, pageEnd a o n, true) else ([], 0, false)
theorem pageOf_sm (a : List Fa) (o n : Int) (h : SZ.sm a) : SZ.sm (pageOf a o n) := by
  unfold pageOf
  split
  · exact ⟨sm_part h _ _, trivial, trivial⟩
  · exact ⟨sm_nil, trivial, trivial⟩
theorem PageAt_eq (a : List Fa) (o n : Int) (h : SZ.sm a) : S.PageAt a o n = some (pageOf a o n) ∧ M.PageAt a o n = some (pageOf a o n) := by
  unfold S.PageAt M.PageAt M.isPage pageOf
  rw [inS, inS, inM, inM]
  cases h1 : inR n 1 9
  · simp
  · cases h2 : inR o 0 (List.length a : Int)
    · simp
    · rw [inR_iff] at h1 h2
      have ha := h.1
      have hw : w64 (o + n) = o + n := w64_sm (by omega) (by omega)
      have hs : sub a o (pageEnd a o n) = some ((a.take (pageEnd a o n).toNat).drop o.toNat) := by
        unfold sub
        rw [if_pos (by unfold pageEnd; split <;> omega)]
      simp only [Option.bind_some, Bool.not_true, Bool.false_eq_true, if_false, hw, Bool.and_true, if_true]
      unfold pageEnd at hs
      rw [hs]
      simp only [Option.bind_some, l2Copy_id _ (sm_part h _ _), copyFacts_id _ (sm_part h _ _)]
      exact ⟨rfl, rfl⟩
theorem same_PageAt (a : List Fa) (o n : Int) (z : SZ.sz a ≤ 1048576) (_ : SZ.sz o ≤ 1048576) (_ : SZ.sz n ≤ 1048576) (_ : Rng.r a) (_ : Rng.r o) (_ : Rng.r n) : ∃ r, S.PageAt a o n = some r ∧ M.PageAt a o n = some r ∧ SZ.sm r :=
  ⟨_, (PageAt_eq a o n (sm_of z)).1, (PageAt_eq a o n (sm_of z)).2, pageOf_sm a o n (sm_of z)⟩
end Go.Gx.Px
