/- Plain laws: a function answers as its reference does: the law of it. Conditions: none. -/
import Derived.Test.YtkcdlbgpodogcaaPac
set_option linter.unusedVariables false
set_option linter.unusedSimpArgs false
namespace Go.Gx.Px
theorem p_FnExactApplyChange (a1 : (List Int)) (a2 : ((List (Int × (List Int))) × Int)) (a3 : (Bool × (Int × (List Int)))) (h1 : Rng.r a1) (h2 : Rng.r a2) (h3 : Rng.r a3) : Q.FnExactApplyChange a1 a2 a3 = some true := by
  unfold Q.FnExactApplyChange
  obtain ⟨a2_0, a2_1⟩ := a2
  obtain ⟨a3_0, ⟨a3_1_0, a3_1_1⟩⟩ := a3
  try dsimp only
  by_cases c1 : (List.length a1 : Int) ≤ 1048576
  rotate_left
  · rw [if_pos (by simp; omega)]
  rw [if_neg (by simp; omega)]
  rw [szSource_eq (a2_0, a2_1) (1048576) (by omega) (by omega) h2, Option.bind_some]
  by_cases c2 : (SZ.sz (a2_0, a2_1) : Int) ≤ 1048576
  rotate_left
  · rw [left_no c2, if_pos (by decide)]
  rw [left_ok c2, nn_if (by omega)]
  rw [szChange_eq (a3_0, (a3_1_0, a3_1_1)) (1048576 - (SZ.sz (a2_0, a2_1) : Int)) (by omega) (by omega) h3, Option.bind_some]
  by_cases c3 : (SZ.sz (a3_0, (a3_1_0, a3_1_1)) : Int) ≤ 1048576 - (SZ.sz (a2_0, a2_1) : Int)
  rotate_left
  · rw [left_no c3, if_pos (by decide)]
  rw [left_ok c3, nn_if (by omega)]
  have z1 : SZ.sz a1 ≤ 1048576 := by rw [sz_flat (fun _ => rfl)]; exact Int.ofNat_le.1 c1
  have s1 : SZ.sm a1 := SZ.of _ (Int.ofNat_le.2 z1)
  have z2 : SZ.sz (a2_0, a2_1) ≤ 1048576 := by omega
  have s2 : SZ.sm (a2_0, a2_1) := SZ.of _ (Int.ofNat_le.2 z2)
  have z3 : SZ.sz (a3_0, (a3_1_0, a3_1_1)) ≤ 1048576 := by omega
  have s3 : SZ.sm (a3_0, (a3_1_0, a3_1_1)) := SZ.of _ (Int.ofNat_le.2 z3)
  obtain ⟨r, hS, hM, hr⟩ := same_ApplyChange a1 (a2_0, a2_1) (a3_0, (a3_1_0, a3_1_1)) z1 z2 z3 h1 h2 h3
  obtain ⟨⟨r1_0, r1_1⟩, r2⟩ := r
  have g1 : SZ.sm (r1_0, r1_1) := hr.1
  have b_s1 : mszL a1 ≤ 1048576 := Nat.le_trans (mszL_bd s1) (by decide)
  have b_s2_0 : mszL a2_0 ≤ 1099512676352 := Nat.le_trans (mszL_bd s2.1) (by decide)
  have b_s2 : nvSource (a2_0, a2_1) ≤ 1099512676352 := by show mszL a2_0 ≤ _; omega
  have b_s3_0 : mszL a3_1_1 ≤ 1048576 := Nat.le_trans (mszL_bd s3.2.2) (by decide)
  have b_s3 : nvChange (a3_0, (a3_1_0, a3_1_1)) ≤ 1048576 := by show mszL a3_1_1 ≤ _; omega
  have b_g1_0 : mszL r1_0 ≤ 1099512676352 := Nat.le_trans (mszL_bd g1.1) (by decide)
  have b_g1 : nvSource (r1_0, r1_1) ≤ 1099512676352 := by show mszL r1_0 ≤ _; omega
  apply bind_eq
  · refine bind_eq (toIntS_id _ (by assumption)) ?_
    try dsimp only
    refine bind_eq (toSource_id _ (by assumption)) ?_
    try dsimp only
    refine bind_eq (toChange_id _ (by assumption)) ?_
    try dsimp only
    refine bind_eq (hS) ?_
    try dsimp only
    all_goals first | rfl | simp
  try dsimp only
  refine bind_eq (toIntS_id _ (by assumption)) ?_
  try dsimp only
  refine bind_eq (toSource_id _ (by assumption)) ?_
  try dsimp only
  refine bind_eq (toChange_id _ (by assumption)) ?_
  try dsimp only
  refine bind_eq (hM) ?_
  try dsimp only
  refine bind_eq (v := false) ?_ ?_
  · refine bind_eq (eqSource_refl _ (by assumption)) ?_
    try dsimp only
    refine ite_neg_eq (by first | decide | (simp; done) | (simp; omega)) ?_
    try dsimp only
    all_goals first | rfl | simp
  try dsimp only
  refine ite_neg_eq (by first | decide | (simp; done) | (simp; omega)) ?_
  try dsimp only
  refine bind_eq (toIntS_id _ (by assumption)) ?_
  try dsimp only
  refine bind_eq (eqIntS_refl _ (by assumption)) ?_
  try dsimp only
  refine ite_neg_eq (by first | decide | (simp; done) | (simp; omega)) ?_
  try dsimp only
  refine bind_eq (toSource_id _ (by assumption)) ?_
  try dsimp only
  refine bind_eq (eqSource_refl _ (by assumption)) ?_
  try dsimp only
  refine ite_neg_eq (by first | decide | (simp; done) | (simp; omega)) ?_
  try dsimp only
  refine bind_eq (toChange_id _ (by assumption)) ?_
  try dsimp only
  refine bind_eq (eqChange_refl _ (by assumption)) ?_
  try dsimp only
  refine ite_neg_eq (by first | decide | (simp; done) | (simp; omega)) ?_
  try dsimp only
  refine bind_eq (markIntS_eq _ _ (by assumption) (by omega) (by omega)) ?_
  try dsimp only
  refine bind_eq (markSource_eq _ _ (by assumption) (by omega) (by omega)) ?_
  try dsimp only
  refine bind_eq (markChange_eq _ _ (by assumption) (by omega) (by omega)) ?_
  try dsimp only
  refine bind_eq (v := false) ?_ ?_
  · refine ite_neg_eq (by first | decide | (simp; done) | (simp; omega)) ?_
    try dsimp only
    refine bind_eq (eqSource_refl _ (by assumption)) ?_
    try dsimp only
    refine ite_neg_eq (by first | decide | (simp; done) | (simp; omega)) ?_
    try dsimp only
    all_goals first | rfl | simp
  try dsimp only
  refine ite_neg_eq (by first | decide | (simp; done) | (simp; omega)) ?_
  try dsimp only
  refine bind_eq (markSource_eq _ _ (by assumption) (by omega) (by omega)) ?_
  try dsimp only
  refine bind_eq (heldSource_eq _ _ (by assumption) (by omega) (by omega)) ?_
  try dsimp only
  refine ite_neg_eq (by first | decide | (simp; done) | (simp; omega)) ?_
  try dsimp only
  refine ite_neg_eq (by first | decide | (simp; done) | (simp; omega)) ?_
  try dsimp only
  apply bind_eq
  · refine bind_eq (toIntS_id _ (by assumption)) ?_
    try dsimp only
    refine bind_eq (toSource_id _ (by assumption)) ?_
    try dsimp only
    refine bind_eq (toChange_id _ (by assumption)) ?_
    try dsimp only
    refine bind_eq (hM) ?_
    try dsimp only
    all_goals first | rfl | simp
  try dsimp only
  refine bind_eq (v := false) ?_ ?_
  · refine bind_eq (eqSource_refl _ (by assumption)) ?_
    try dsimp only
    refine ite_neg_eq (by first | decide | (simp; done) | (simp; omega)) ?_
    try dsimp only
    all_goals first | rfl | simp
  try dsimp only
  refine ite_neg_eq (by first | decide | (simp; done) | (simp; omega)) ?_
  try dsimp only
  refine bind_eq (heldSource_eq _ _ (by assumption) (by omega) (by omega)) ?_
  try dsimp only
  refine ite_neg_eq (by first | decide | (simp; done) | (simp; omega)) ?_
  try dsimp only
  refine ite_neg_eq (by first | decide | (simp; done) | (simp; omega)) ?_
  try dsimp only
  all_goals first | rfl | simp
end Go.Gx.Px
