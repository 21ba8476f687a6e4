/- Plain laws: pages. Conditions: none. -/
import Derived.Test.YtnccdhglieidhaaPlFact
set_option linter.unusedVariables false
set_option linter.unusedSimpArgs false
namespace Go.Gx.Px
theorem inS (a b c : Int) : S.l1In a b c = some (decide (b ≤ a) && decide (a ≤ c)) := by
  unfold S.l1In
  by_cases h : b ≤ a <;> simp [h]
theorem inM (a b c : Int) : M.within a b c = some (decide (b ≤ a) && decide (a ≤ c)) := by
  unfold M.within
  by_cases h : b ≤ a <;> simp [h]
theorem app_eq {α : Type} (a b : List α) (h : a.length + b.length ≤ 4294967296) : app a b = some (a ++ b) := by
  unfold app; rw [if_pos (by rw [LIM_eq]; exact h)]
/-- a list that is built by appending what each element gives -/
theorem map_loop {α β : Type} (f : Nat → List β → Int → Option (List β)) (a : List α) (g : α → β) (hn : a.length ≤ 4294967296) (he : ∀ k x, f (k + 1) x (a.length : Int) = some x)
    (hs : ∀ k (x : List β) (i : Nat) (hi : i < a.length), x.length = i → f (k + 1) x (i : Int) = f k (x ++ [g a[i]]) ((i + 1 : Nat) : Int)) : f FUEL [] 0 = some (a.map g) := by
  obtain ⟨k, s', h1, rfl⟩ := loop_inv0 f (fun i x => x = (a.take i).map g) a.length hn [] (by simp) (fun k i x hi hx => ⟨_, hs k x i hi (by rw [hx]; simp; omega), by
    rw [hx, List.take_add_one, List.getElem?_eq_getElem hi, List.map_append]; rfl⟩)
  rw [h1, he, List.take_length]
theorem l2One_eq (r : Int) (v : List Int) (h : v.length ≤ 1048576) : S.l2One r v = some (r, v) := by
  unfold S.l2One; rw [app_eq _ _ (by simp; omega)]; rfl
theorem l2Copy_id (a : List (Int × List Int)) (h : smF a) : S.l2Copy a = some a := by
  obtain ⟨ha, he⟩ := h
  unfold S.l2Copy
  rw [map_loop (S.l2Copy_l1 a) a id (by omega) (fun k x => by rw [S.l2Copy_l1, if_neg (by simp)]) (fun k x i hi hl => by
    rw [S.l2Copy_l1, if_pos (by simpa using hi), idx_nat a hi]
    simp only [Option.bind_some]
    rw [l2One_eq _ _ (he _ (List.getElem_mem hi)), Option.bind_some, app_eq _ _ (by simp; omega), Option.bind_some, w64_succ (by omega)]
    rfl)]
  simp
theorem clone_eq (a : List Int) (h : a.length ≤ 1048576) : Slices.Clone_Lint_int a = some a := by
  unfold Slices.Clone_Lint_int; rw [app_eq _ _ (by simp; omega)]; rfl
theorem copyFact_eq (e : Int × List Int) (h : e.2.length ≤ 1048576) : M.copyFact e = some e := by
  unfold M.copyFact; rw [clone_eq _ h]; rfl
theorem copyFacts_id (a : List (Int × List Int)) (h : smF a) : M.copyFacts a = some a := by
  obtain ⟨ha, he⟩ := h
  unfold M.copyFacts
  rw [map_loop (M.copyFacts_l1 a) a id (by omega) (fun k x => by rw [M.copyFacts_l1, if_neg (by simp)]) (fun k x i hi hl => by
    rw [M.copyFacts_l1, if_pos (by simpa using hi), idx_nat a hi]
    simp only [Option.bind_some]
    rw [copyFact_eq _ (he _ (List.getElem_mem hi)), Option.bind_some, app_eq _ _ (by simp; omega), Option.bind_some, w64_succ (by omega)]
    rfl)]
  simp
theorem smF_part (a : List (Int × List Int)) (h : smF a) (i j : Nat) : smF ((a.take i).drop j) :=
  ⟨by simp; have := h.1; omega, fun e he => h.2 e (List.mem_of_mem_take (List.mem_of_mem_drop he))⟩
theorem smF_nil : smF [] := ⟨by simp, by simp⟩
/-- the page at an offset, and what comes next -/
theorem PageAt_same (a : List (Int × List Int)) (o n : Int) (h : smF a) : ∃ r, S.PageAt a o n = some r ∧ M.PageAt a o n = some r ∧ smF r.1 := by
  unfold S.PageAt M.PageAt M.isPage
  rw [inS, inS, inM, inM]
  by_cases h1 : (decide (1 ≤ n) && decide (n ≤ 9)) = true
  · by_cases h2 : (decide (0 ≤ o) && decide (o ≤ (List.length a : Int))) = true
    · simp only [h1, h2, Option.bind_some, Bool.not_true, Bool.false_eq_true, if_false]
      simp at h1 h2
      have ha := h.1
      have hw : w64 (o + n) = o + n := w64_sm (by omega) (by omega)
      rw [hw]
      have hsub : ∃ b, sub a o (if o + n < (List.length a : Int) then o + n else (List.length a : Int)) = some b ∧ smF b := by
        unfold sub
        rw [if_pos (by split <;> omega)]
        exact ⟨_, rfl, smF_part a h _ _⟩
      obtain ⟨b, hb, hsm⟩ := hsub
      rw [hb]
      simp only [Option.bind_some, l2Copy_id b hsm, copyFacts_id b hsm]
      exact ⟨_, rfl, rfl, hsm⟩
    · simp only [h1, h2, Option.bind_some, Bool.not_true, Bool.not_false, Bool.false_eq_true, if_false, if_true]
      exact ⟨_, rfl, rfl, smF_nil⟩
  · simp only [h1, Option.bind_some, Bool.not_false, if_true]
    exact ⟨_, rfl, rfl, smF_nil⟩
theorem p_FnExactPageAt (a1 : List (Int × List Int)) (a2 a3 : Int) (h1 : Rng.r a1) (h2 : Rng.r a2) (h3 : Rng.r a3) : Q.FnExactPageAt a1 a2 a3 = some true := by
  unfold Q.FnExactPageAt
  rw [szFactS_eq a1 _ (by omega) (by omega) h1, Option.bind_some]
  by_cases hc : (SZ.sz a1 : Int) ≤ 1048576
  · rw [if_neg (by simp [left_neg]; exact hc)]
    have hs := smF_of a1 hc
    obtain ⟨r, hS, hM, hr⟩ := PageAt_same a1 a2 a3 hs
    have hm := mszL_sm a1 hs
    have hm2 := mszL_sm r.1 hr
    simp only [toFactS_id a1 hs, Option.bind_some, hS, hM, eqFactS_refl r.1 hr, eqFactS_refl a1 hs, markFactS_eq a1 1 hs (by omega) (by omega), markFactS_eq r.1 1 hr (by omega) (by omega), heldFactS_eq r.1 1 hr (by omega) (by omega),
      Bool.not_true, Bool.false_eq_true, if_false, decide_true]
    rw [if_neg (by simp; omega)]
    simp only [Option.bind_some, Bool.false_eq_true, if_false]
    rw [if_neg (by simp; omega)]
    try rw [if_neg (by simp; omega)]
  · rw [if_pos (by simp [left_neg]; omega)]
end Go.Gx.Px
