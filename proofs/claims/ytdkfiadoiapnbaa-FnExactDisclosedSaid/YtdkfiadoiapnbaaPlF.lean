/- Plain laws: a function answers as its reference does: the law of it. Conditions: none. -/
import Derived.Test.YtdkfiadoiapnbaaPqs8
set_option linter.unusedVariables false
set_option linter.unusedSimpArgs false
namespace Go.Gx.Px
theorem p_FnExactDisclosed (a1 : (List (Int × (List Int) × Int × Int × Int))) (a2 : ((List Int) × (List (Int × (List Int))))) (a3 : (List (Int × Int))) (h1 : Rng.r a1) (h2 : Rng.r a2) (h3 : Rng.r a3) : Q.FnExactDisclosed a1 a2 a3 = some true := by
  unfold Q.FnExactDisclosed
  obtain ⟨a2_0, a2_1⟩ := a2
  try dsimp only
  rw [szMethodS_eq a1 (1048576) (by omega) (by omega) h1, Option.bind_some]
  by_cases c1 : (SZ.sz a1 : Int) ≤ 1048576
  rotate_left
  · rw [left_no c1, if_pos (by decide)]
  rw [left_ok c1, nn_if (by omega)]
  rw [szQuery_eq (a2_0, a2_1) (1048576 - (SZ.sz a1 : Int)) (by omega) (by omega) h2, Option.bind_some]
  by_cases c2 : (SZ.sz (a2_0, a2_1) : Int) ≤ 1048576 - (SZ.sz a1 : Int)
  rotate_left
  · rw [left_no c2, if_pos (by decide)]
  rw [left_ok c2, nn_if (by omega)]
  rw [szStepS_eq a3 (1048576 - (SZ.sz a1 : Int) - (SZ.sz (a2_0, a2_1) : Int)) (by omega) (by omega) h3, Option.bind_some]
  by_cases c3 : (SZ.sz a3 : Int) ≤ 1048576 - (SZ.sz a1 : Int) - (SZ.sz (a2_0, a2_1) : Int)
  rotate_left
  · rw [left_no c3, if_pos (by decide)]
  rw [left_ok c3, nn_if (by omega)]
  have z1 : SZ.sz a1 ≤ 1048576 := by omega
  have s1 : SZ.sm a1 := SZ.of _ (Int.ofNat_le.2 z1)
  have z2 : SZ.sz (a2_0, a2_1) ≤ 1048576 := by omega
  have s2 : SZ.sm (a2_0, a2_1) := SZ.of _ (Int.ofNat_le.2 z2)
  have z3 : SZ.sz a3 ≤ 1048576 := by omega
  have s3 : SZ.sm a3 := SZ.of _ (Int.ofNat_le.2 z3)
  obtain ⟨r, hS, hM, hr⟩ := same_Disclosed a1 (a2_0, a2_1) a3 z1 z2 z3 h1 h2 h3
  have g1 : SZ.sm r := hr
  have b_s1 : mszL a1 ≤ 1099515822080 := Nat.le_trans (mszL_bd s1) (by decide)
  have b_s2_0 : mszL a2_0 ≤ 1048576 := Nat.le_trans (mszL_bd s2.1) (by decide)
  have b_s2_1 : mszL a2_1 ≤ 1099512676352 := Nat.le_trans (mszL_bd s2.2) (by decide)
  have b_s2 : nvQuery (a2_0, a2_1) ≤ 1099513724928 := by show mszL a2_0 + mszL a2_1 ≤ _; omega
  have b_s3 : mszL a3 ≤ 2097152 := Nat.le_trans (mszL_bd s3) (by decide)
  have b_g1 : mszL r ≤ 1048576 := Nat.le_trans (mszL_bd g1) (by decide)
  refine bind_eq (toMethodS_id _ (by assumption)) ?_
  try dsimp only
  refine bind_eq (toQuery_id _ (by assumption)) ?_
  try dsimp only
  refine bind_eq (toStepS_id _ (by assumption)) ?_
  try dsimp only
  refine bind_eq (hS) ?_
  try dsimp only
  refine bind_eq (toMethodS_id _ (by assumption)) ?_
  try dsimp only
  refine bind_eq (toQuery_id _ (by assumption)) ?_
  try dsimp only
  refine bind_eq (toStepS_id _ (by assumption)) ?_
  try dsimp only
  refine bind_eq (hM) ?_
  try dsimp only
  refine bind_eq (eqIntS_refl _ (by assumption)) ?_
  try dsimp only
  refine ite_neg_eq (by first | decide | (simp; done) | (simp; omega)) ?_
  try dsimp only
  refine bind_eq (toMethodS_id _ (by assumption)) ?_
  try dsimp only
  refine bind_eq (eqMethodS_refl _ (by assumption)) ?_
  try dsimp only
  refine ite_neg_eq (by first | decide | (simp; done) | (simp; omega)) ?_
  try dsimp only
  refine bind_eq (toQuery_id _ (by assumption)) ?_
  try dsimp only
  refine bind_eq (eqQuery_refl _ (by assumption)) ?_
  try dsimp only
  refine ite_neg_eq (by first | decide | (simp; done) | (simp; omega)) ?_
  try dsimp only
  refine bind_eq (toStepS_id _ (by assumption)) ?_
  try dsimp only
  refine bind_eq (eqStepS_refl _ (by assumption)) ?_
  try dsimp only
  refine ite_neg_eq (by first | decide | (simp; done) | (simp; omega)) ?_
  try dsimp only
  refine bind_eq (markMethodS_eq _ _ (by assumption) (by omega) (by omega)) ?_
  try dsimp only
  refine bind_eq (markQuery_eq _ _ (by assumption) (by omega) (by omega)) ?_
  try dsimp only
  refine bind_eq (markStepS_eq _ _ (by assumption) (by omega) (by omega)) ?_
  try dsimp only
  refine bind_eq (v := false) ?_ ?_
  · refine ite_neg_eq (by first | decide | (simp; done) | (simp; omega)) ?_
    try dsimp only
    refine bind_eq (eqIntS_refl _ (by assumption)) ?_
    try dsimp only
    all_goals first | rfl | simp
  try dsimp only
  refine ite_neg_eq (by first | decide | (simp; done) | (simp; omega)) ?_
  try dsimp only
  refine bind_eq (markIntS_eq _ _ (by assumption) (by omega) (by omega)) ?_
  try dsimp only
  refine bind_eq (heldIntS_eq _ _ (by assumption) (by omega) (by omega)) ?_
  try dsimp only
  refine ite_neg_eq (by first | decide | (simp; done) | (simp; omega)) ?_
  try dsimp only
  refine ite_neg_eq (by first | decide | (simp; done) | (simp; omega)) ?_
  try dsimp only
  refine bind_eq (toMethodS_id _ (by assumption)) ?_
  try dsimp only
  refine bind_eq (toQuery_id _ (by assumption)) ?_
  try dsimp only
  refine bind_eq (toStepS_id _ (by assumption)) ?_
  try dsimp only
  refine bind_eq (hM) ?_
  try dsimp only
  refine bind_eq (eqIntS_refl _ (by assumption)) ?_
  try dsimp only
  refine ite_neg_eq (by first | decide | (simp; done) | (simp; omega)) ?_
  try dsimp only
  refine bind_eq (heldIntS_eq _ _ (by assumption) (by omega) (by omega)) ?_
  try dsimp only
  refine ite_neg_eq (by first | decide | (simp; done) | (simp; omega)) ?_
  try dsimp only
  refine ite_neg_eq (by first | decide | (simp; done) | (simp; omega)) ?_
  try dsimp only
  all_goals first | rfl | simp
end Go.Gx.Px
