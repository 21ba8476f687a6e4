/- Plain laws: answers that are not dropped. Conditions: none. -/
import Derived.Test.YtnjjpmilcajmkaaPa
set_option linter.unusedVariables false
set_option linter.unusedSimpArgs false
namespace Go.Gx.Px
abbrev Tol := (Int × List Int) × List Fa
def hasI (l : List Int) (x : Int) : Bool := l.any fun e => decide (e = x)
theorem l2Has_eq (l : List Int) (x : Int) (h : l.length ≤ 1048576) : S.l2Has l x = some (hasI l x) := by
  unfold S.l2Has hasI
  rw [any_loop (S.l2Has_l1 l x) l (fun e => decide (e = x)) true (by omega) (fun k => by rw [S.l2Has_l1, if_neg (by simp)]) (fun k i hi => by
    rw [S.l2Has_l1, if_pos (by simpa using hi), idx_nat l hi, Option.bind_some, w64_succ (by omega)])]
  cases l.any (fun e => decide (e = x)) <;> rfl
theorem Contains_eq (l : List Int) (x : Int) (h : l.length ≤ 1048576) : Slices.Contains_Lint_int l x = some (hasI l x) := by
  unfold Slices.Contains_Lint_int Slices.Index_Lint_int hasI
  rw [index_loop (Slices.Index_Lint_int_l1 l x) l (fun e => decide (e = x)) (by omega) (fun k => by rw [Slices.Index_Lint_int_l1, if_neg (by simp)]) (fun k i hi => by
    rw [Slices.Index_Lint_int_l1, if_pos (by simpa using hi), idx_nat l hi, Option.bind_some, w64_succ (by omega)]
    have e : decide (x = l[i]) = decide (l[i] = x) := by congr 1; exact propext ⟨Eq.symm, Eq.symm⟩
    rw [e])]
  rcases fidx_spec (fun e => decide (e = x)) l 0 with ⟨h1, h2⟩ | ⟨j, hj, h1, h2, h3⟩
  · rw [h2]; rfl
  · have : l.any (fun e => decide (e = x)) = true := List.any_eq_true.2 ⟨_, List.getElem_mem hj, h2⟩
    rw [this, h1]
    simp
theorem told_S (t : Tol) (h : SZ.sm t) : S.l29Told t = some t := by
  have h1 := h.1.2.1
  unfold S.l29Told S.l8Access
  rw [app_eq _ _ (by simp; omega)]
  simp only [Option.bind_some, l2Copy_id _ h.2]
  rfl
theorem told_M (t : Tol) (h : SZ.sm t) : M.copyTold t = some t := by
  unfold M.copyTold M.copyAccess
  simp only [clone_eq _ h.1.2.1, Option.bind_some, copyFacts_id _ h.2]
theorem any_sub {α : Type} (l : List α) (i : Nat) (hi : i < l.length) (d : α) : l.getD i d = l[i] := by simp [hi]
def keepT (l : List Tol) (drop : List Int) (i : Nat) : List Tol := if hasI drop (i : Int) then [] else [l.getD i ((0, []), [])]
def woF (l : List Tol) (drop : List Int) : List Tol := (List.range l.length).flatMap (keepT l drop)
theorem keepT_le (l : List Tol) (drop : List Int) (i : Nat) : (keepT l drop i).length ≤ 1 := by unfold keepT; split <;> simp
theorem woF_sm (l : List Tol) (drop : List Int) (h : SZ.sm l) : SZ.sm (woF l drop) := by
  refine ⟨Nat.le_trans (flatMap_len _ (keepT_le l drop) _) (by rw [List.length_range]; exact h.1), fun e he => ?_⟩
  obtain ⟨i, hi, hm⟩ := List.mem_flatMap.1 he
  rw [List.mem_range] at hi
  unfold keepT at hm
  split at hm
  · cases hm
  · rw [any_sub l i hi] at hm
    simp at hm; subst hm; exact h.2 _ (List.getElem_mem hi)
theorem wo_step (l : List Tol) (drop : List Int) (i : Nat) (hi : i < l.length) : keepT l drop i = if hasI drop (i : Int) then [] else [l[i]] := by unfold keepT; rw [any_sub l i hi]
theorem wo_len (l : List Tol) (drop : List Int) (i : Nat) : ((List.range i).flatMap (keepT l drop)).length ≤ i := by
  have := flatMap_len _ (keepT_le l drop) (List.range i); rwa [List.length_range] at this
theorem Without_S (l : List Tol) (drop : List Int) (hl : SZ.sm l) (hd : SZ.sm drop) : S.Without l drop = some (woF l drop) := by
  have hn := hl.1
  unfold S.Without woF
  rw [flat_loopN (S.Without_l1 l drop) l.length (keepT l drop) (by omega) (fun k x => by rw [S.Without_l1, if_neg (by simp)]) (fun k x i hi hx => by
    have hxl : x.length ≤ i := by rw [hx]; exact wo_len l drop i
    rw [S.Without_l1, if_pos (by simpa using hi), l2Has_eq drop _ hd.1, Option.bind_some, wo_step l drop i hi, w64_succ (by omega), idx_nat l hi]
    cases hasI drop (i : Int)
    · simp only [Bool.not_false, if_true, Option.bind_some, told_S _ (hl.2 _ (List.getElem_mem hi)), Bool.false_eq_true, if_false]
      rw [app_eq _ _ (by simp; omega)]
      rfl
    · simp)]
  rfl
theorem Without_M (l : List Tol) (drop : List Int) (hl : SZ.sm l) (hd : SZ.sm drop) : M.Without l drop = some (woF l drop) := by
  have hn := hl.1
  unfold M.Without woF
  rw [flat_loopN (M.Without_l1 l drop) l.length (keepT l drop) (by omega) (fun k x => by rw [M.Without_l1, if_neg (by simp)]) (fun k x i hi hx => by
    have hxl : x.length ≤ i := by rw [hx]; exact wo_len l drop i
    rw [M.Without_l1, if_pos (by simpa using hi), idx_nat l hi, Option.bind_some, Contains_eq drop _ hd.1, Option.bind_some, wo_step l drop i hi, w64_succ (by omega)]
    cases hasI drop (i : Int)
    · have ht := told_M l[i] (hl.2 _ (List.getElem_mem hi))
      simp only [Bool.not_false, if_true, Bool.false_eq_true, if_false]
      rw [show ((l[i].1.1, l[i].1.2), l[i].2) = l[i] from rfl, ht, Option.bind_some, app_eq _ _ (by simp; omega)]
      rfl
    · simp)]
  rfl
theorem same_Without (l : List Tol) (drop : List Int) (z1 : SZ.sz l ≤ 1048576) (z2 : SZ.sz drop ≤ 1048576) (_ : Rng.r l) (_ : Rng.r drop) : ∃ r, S.Without l drop = some r ∧ M.Without l drop = some r ∧ SZ.sm r :=
  ⟨_, Without_S l drop (sm_of z1) (sm_of z2), Without_M l drop (sm_of z1) (sm_of z2), woF_sm l drop (sm_of z1)⟩
end Go.Gx.Px
