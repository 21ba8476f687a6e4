/- Plain laws: a function answers as its reference does: the law of it. Conditions: none. -/
import Derived.Test.YtnlaijbfggelfaaPsv
set_option linter.unusedVariables false
set_option linter.unusedSimpArgs false
namespace Go.Gx.Px
theorem p_FnExactSwapValue (a1 : ((List Int) × (List (Int × (List Int))))) (a2 : Int) (a3 : Int) (h1 : Rng.r a1) (h2 : Rng.r a2) (h3 : Rng.r a3) : Q.FnExactSwapValue a1 a2 a3 = some true := by
  unfold Q.FnExactSwapValue
  obtain ⟨a1_0, a1_1⟩ := a1
  try dsimp only
  rw [szQuery_eq (a1_0, a1_1) (1048576) (by omega) (by omega) h1, Option.bind_some]
  by_cases c1 : (SZ.sz (a1_0, a1_1) : Int) ≤ 1048576
  rotate_left
  · rw [left_no c1, if_pos (by decide)]
  rw [left_ok c1, nn_if (by omega)]
  have z1 : SZ.sz (a1_0, a1_1) ≤ 1048576 := by omega
  have s1 : SZ.sm (a1_0, a1_1) := SZ.of _ (Int.ofNat_le.2 z1)
  have z2 : SZ.sz a2 ≤ 1048576 := Nat.zero_le _
  have s2 : SZ.sm a2 := SZ.of _ (Int.ofNat_le.2 z2)
  have z3 : SZ.sz a3 ≤ 1048576 := Nat.zero_le _
  have s3 : SZ.sm a3 := SZ.of _ (Int.ofNat_le.2 z3)
  obtain ⟨r, hS, hM, hr⟩ := same_SwapValue (a1_0, a1_1) a2 a3 z1 z2 z3 h1 h2 h3
  obtain ⟨r1_0, r1_1⟩ := r
  have g1 : SZ.sm (r1_0, r1_1) := hr
  have b_s1_0 : mszL a1_0 ≤ 1048576 := Nat.le_trans (mszL_bd s1.1) (by decide)
  have b_s1_1 : mszL a1_1 ≤ 1099512676352 := Nat.le_trans (mszL_bd s1.2) (by decide)
  have b_s1 : nvQuery (a1_0, a1_1) ≤ 1099513724928 := by show mszL a1_0 + mszL a1_1 ≤ _; omega
  have b_g1_0 : mszL r1_0 ≤ 1048576 := Nat.le_trans (mszL_bd g1.1) (by decide)
  have b_g1_1 : mszL r1_1 ≤ 1099512676352 := Nat.le_trans (mszL_bd g1.2) (by decide)
  have b_g1 : nvQuery (r1_0, r1_1) ≤ 1099513724928 := by show mszL r1_0 + mszL r1_1 ≤ _; omega
  refine bind_eq (toQuery_id _ (by assumption)) ?_
  try dsimp only
  refine bind_eq (hS) ?_
  try dsimp only
  refine bind_eq (toQuery_id _ (by assumption)) ?_
  try dsimp only
  refine bind_eq (hM) ?_
  try dsimp only
  refine bind_eq (eqQuery_refl _ (by assumption)) ?_
  try dsimp only
  refine ite_neg_eq (by first | decide | (simp; done) | (simp; omega)) ?_
  try dsimp only
  refine bind_eq (toQuery_id _ (by assumption)) ?_
  try dsimp only
  refine bind_eq (eqQuery_refl _ (by assumption)) ?_
  try dsimp only
  refine ite_neg_eq (by first | decide | (simp; done) | (simp; omega)) ?_
  try dsimp only
  refine bind_eq (markQuery_eq _ _ (by assumption) (by omega) (by omega)) ?_
  try dsimp only
  refine bind_eq (v := false) ?_ ?_
  · refine ite_neg_eq (by first | decide | (simp; done) | (simp; omega)) ?_
    try dsimp only
    refine bind_eq (eqQuery_refl _ (by assumption)) ?_
    try dsimp only
    all_goals first | rfl | simp
  try dsimp only
  refine ite_neg_eq (by first | decide | (simp; done) | (simp; omega)) ?_
  try dsimp only
  refine bind_eq (markQuery_eq _ _ (by assumption) (by omega) (by omega)) ?_
  try dsimp only
  refine bind_eq (heldQuery_eq _ _ (by assumption) (by omega) (by omega)) ?_
  try dsimp only
  refine ite_neg_eq (by first | decide | (simp; done) | (simp; omega)) ?_
  try dsimp only
  refine ite_neg_eq (by first | decide | (simp; done) | (simp; omega)) ?_
  try dsimp only
  refine bind_eq (toQuery_id _ (by assumption)) ?_
  try dsimp only
  refine bind_eq (hM) ?_
  try dsimp only
  refine bind_eq (eqQuery_refl _ (by assumption)) ?_
  try dsimp only
  refine ite_neg_eq (by first | decide | (simp; done) | (simp; omega)) ?_
  try dsimp only
  refine bind_eq (heldQuery_eq _ _ (by assumption) (by omega) (by omega)) ?_
  try dsimp only
  refine ite_neg_eq (by first | decide | (simp; done) | (simp; omega)) ?_
  try dsimp only
  refine ite_neg_eq (by first | decide | (simp; done) | (simp; omega)) ?_
  try dsimp only
  all_goals first | rfl | simp
end Go.Gx.Px
