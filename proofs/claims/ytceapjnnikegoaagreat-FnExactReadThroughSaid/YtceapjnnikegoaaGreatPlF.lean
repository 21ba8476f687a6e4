/- Plain laws: a function answers as its reference does: the law of it. Conditions: none. -/
import Derived.Test.YtceapjnnikegoaaGreatPmRt
set_option linter.unusedVariables false
set_option linter.unusedSimpArgs false
namespace Go.Gx.Px
theorem p_FnExactReadThrough (a1 : (List Int)) (a2 : (List (Int × (List Int) × Int × Int × Int))) (a3 : ((List (Int × (List Int))) × Int)) (a4 : (Int × (List Int))) (a5 : Int) (a6 : (List (Bool × (Int × (List Int))))) (a7 : Int) (h1 : Rng.r a1) (h2 : Rng.r a2) (h3 : Rng.r a3) (h4 : Rng.r a4) (h5 : Rng.r a5) (h6 : Rng.r a6) (h7 : Rng.r a7) : Q.FnExactReadThrough a1 a2 a3 a4 a5 a6 a7 = some true := by
  unfold Q.FnExactReadThrough
  obtain ⟨a3_0, a3_1⟩ := a3
  obtain ⟨a4_0, a4_1⟩ := a4
  try dsimp only
  by_cases c1 : (List.length a1 : Int) ≤ 1048576
  rotate_left
  · rw [if_pos (by simp; omega)]
  rw [if_neg (by simp; omega)]
  rw [szMethodS_eq a2 (1048576) (by omega) (by omega) h2, Option.bind_some]
  by_cases c2 : (SZ.sz a2 : Int) ≤ 1048576
  rotate_left
  · rw [left_no c2, if_pos (by decide)]
  rw [left_ok c2, nn_if (by omega)]
  rw [szSource_eq (a3_0, a3_1) (1048576 - (SZ.sz a2 : Int)) (by omega) (by omega) h3, Option.bind_some]
  by_cases c3 : (SZ.sz (a3_0, a3_1) : Int) ≤ 1048576 - (SZ.sz a2 : Int)
  rotate_left
  · rw [left_no c3, if_pos (by decide)]
  rw [left_ok c3, nn_if (by omega)]
  rw [szAccess_eq (a4_0, a4_1) (1048576 - (SZ.sz a2 : Int) - (SZ.sz (a3_0, a3_1) : Int)) (by omega) (by omega) h4, Option.bind_some]
  by_cases c4 : (SZ.sz (a4_0, a4_1) : Int) ≤ 1048576 - (SZ.sz a2 : Int) - (SZ.sz (a3_0, a3_1) : Int)
  rotate_left
  · rw [left_no c4, if_pos (by decide)]
  rw [left_ok c4, nn_if (by omega)]
  rw [szChangeS_eq a6 (1048576 - (SZ.sz a2 : Int) - (SZ.sz (a3_0, a3_1) : Int) - (SZ.sz (a4_0, a4_1) : Int)) (by omega) (by omega) h6, Option.bind_some]
  by_cases c6 : (SZ.sz a6 : Int) ≤ 1048576 - (SZ.sz a2 : Int) - (SZ.sz (a3_0, a3_1) : Int) - (SZ.sz (a4_0, a4_1) : Int)
  rotate_left
  · rw [left_no c6, if_pos (by decide)]
  rw [left_ok c6, nn_if (by omega)]
  have z1 : SZ.sz a1 ≤ 1048576 := by rw [sz_flat (fun _ => rfl)]; exact Int.ofNat_le.1 c1
  have s1 : SZ.sm a1 := SZ.of _ (Int.ofNat_le.2 z1)
  have z2 : SZ.sz a2 ≤ 1048576 := by omega
  have s2 : SZ.sm a2 := SZ.of _ (Int.ofNat_le.2 z2)
  have z3 : SZ.sz (a3_0, a3_1) ≤ 1048576 := by omega
  have s3 : SZ.sm (a3_0, a3_1) := SZ.of _ (Int.ofNat_le.2 z3)
  have z4 : SZ.sz (a4_0, a4_1) ≤ 1048576 := by omega
  have s4 : SZ.sm (a4_0, a4_1) := SZ.of _ (Int.ofNat_le.2 z4)
  have z5 : SZ.sz a5 ≤ 1048576 := Nat.zero_le _
  have s5 : SZ.sm a5 := SZ.of _ (Int.ofNat_le.2 z5)
  have z6 : SZ.sz a6 ≤ 1048576 := by omega
  have s6 : SZ.sm a6 := SZ.of _ (Int.ofNat_le.2 z6)
  have z7 : SZ.sz a7 ≤ 1048576 := Nat.zero_le _
  have s7 : SZ.sm a7 := SZ.of _ (Int.ofNat_le.2 z7)
  obtain ⟨r, hS, hM, hr⟩ := same_ReadThrough a1 a2 (a3_0, a3_1) (a4_0, a4_1) a5 a6 a7 z1 z2 z3 z4 z5 z6 z7 h1 h2 h3 h4 h5 h6 h7
  obtain ⟨⟨r1_0, r1_1, r1_2, r1_3, r1_4⟩, ⟨r2_0, r2_1⟩⟩ := r
  have g1 : SZ.sm (r1_0, r1_1, r1_2, r1_3, r1_4) := hr.1
  have g2 : SZ.sm (r2_0, r2_1) := hr.2
  have b_s1 : mszL a1 ≤ 1048576 := Nat.le_trans (mszL_bd s1) (by decide)
  have b_s2 : mszL a2 ≤ 1099515822080 := Nat.le_trans (mszL_bd s2) (by decide)
  have b_s3_0 : mszL a3_0 ≤ 1099512676352 := Nat.le_trans (mszL_bd s3.1) (by decide)
  have b_s3 : nvSource (a3_0, a3_1) ≤ 1099512676352 := by show mszL a3_0 ≤ _; omega
  have b_s4_0 : mszL a4_1 ≤ 1048576 := Nat.le_trans (mszL_bd s4.2) (by decide)
  have b_s4 : nvAccess (a4_0, a4_1) ≤ 1048576 := by show mszL a4_1 ≤ _; omega
  have b_s6 : mszL a6 ≤ 1099513724928 := Nat.le_trans (mszL_bd s6) (by decide)
  have b_g1_0 : mszL r1_0 ≤ 1099512676352 := Nat.le_trans (mszL_bd g1.1) (by decide)
  have b_g1 : nvReading (r1_0, r1_1, r1_2, r1_3, r1_4) ≤ 1099512676352 := by show mszL r1_0 ≤ _; omega
  have b_g2_0 : mszL r2_0 ≤ 1099512676352 := Nat.le_trans (mszL_bd g2.1) (by decide)
  have b_g2 : nvSource (r2_0, r2_1) ≤ 1099512676352 := by show mszL r2_0 ≤ _; omega
  apply bind_eq
  · refine bind_eq (toIntS_id _ (by assumption)) ?_
    try dsimp only
    refine bind_eq (toMethodS_id _ (by assumption)) ?_
    try dsimp only
    refine bind_eq (toSource_id _ (by assumption)) ?_
    try dsimp only
    refine bind_eq (toAccess_id _ (by assumption)) ?_
    try dsimp only
    refine bind_eq (toChangeS_id _ (by assumption)) ?_
    try dsimp only
    refine bind_eq (hS) ?_
    try dsimp only
    all_goals first | rfl | simp
  try dsimp only
  refine bind_eq (toIntS_id _ (by assumption)) ?_
  try dsimp only
  refine bind_eq (toMethodS_id _ (by assumption)) ?_
  try dsimp only
  refine bind_eq (toSource_id _ (by assumption)) ?_
  try dsimp only
  refine bind_eq (toAccess_id _ (by assumption)) ?_
  try dsimp only
  refine bind_eq (toChangeS_id _ (by assumption)) ?_
  try dsimp only
  refine bind_eq (hM) ?_
  try dsimp only
  refine bind_eq (v := false) ?_ ?_
  · refine bind_eq (eqReading_refl _ (by assumption)) ?_
    try dsimp only
    refine ite_neg_eq (by first | decide | (simp; done) | (simp; omega)) ?_
    try dsimp only
    refine bind_eq (eqSource_refl _ (by assumption)) ?_
    try dsimp only
    all_goals first | rfl | simp
  try dsimp only
  refine ite_neg_eq (by first | decide | (simp; done) | (simp; omega)) ?_
  try dsimp only
  refine bind_eq (toIntS_id _ (by assumption)) ?_
  try dsimp only
  refine bind_eq (eqIntS_refl _ (by assumption)) ?_
  try dsimp only
  refine ite_neg_eq (by first | decide | (simp; done) | (simp; omega)) ?_
  try dsimp only
  refine bind_eq (toMethodS_id _ (by assumption)) ?_
  try dsimp only
  refine bind_eq (eqMethodS_refl _ (by assumption)) ?_
  try dsimp only
  refine ite_neg_eq (by first | decide | (simp; done) | (simp; omega)) ?_
  try dsimp only
  refine bind_eq (toSource_id _ (by assumption)) ?_
  try dsimp only
  refine bind_eq (eqSource_refl _ (by assumption)) ?_
  try dsimp only
  refine ite_neg_eq (by first | decide | (simp; done) | (simp; omega)) ?_
  try dsimp only
  refine bind_eq (toAccess_id _ (by assumption)) ?_
  try dsimp only
  refine bind_eq (eqAccess_refl _ (by assumption)) ?_
  try dsimp only
  refine ite_neg_eq (by first | decide | (simp; done) | (simp; omega)) ?_
  try dsimp only
  refine bind_eq (toChangeS_id _ (by assumption)) ?_
  try dsimp only
  refine bind_eq (eqChangeS_refl _ (by assumption)) ?_
  try dsimp only
  refine ite_neg_eq (by first | decide | (simp; done) | (simp; omega)) ?_
  try dsimp only
  refine bind_eq (markIntS_eq _ _ (by assumption) (by omega) (by omega)) ?_
  try dsimp only
  refine bind_eq (markMethodS_eq _ _ (by assumption) (by omega) (by omega)) ?_
  try dsimp only
  refine bind_eq (markSource_eq _ _ (by assumption) (by omega) (by omega)) ?_
  try dsimp only
  refine bind_eq (markAccess_eq _ _ (by assumption) (by omega) (by omega)) ?_
  try dsimp only
  refine bind_eq (markChangeS_eq _ _ (by assumption) (by omega) (by omega)) ?_
  try dsimp only
  refine bind_eq (v := false) ?_ ?_
  · refine ite_neg_eq (by first | decide | (simp; done) | (simp; omega)) ?_
    try dsimp only
    refine bind_eq (eqReading_refl _ (by assumption)) ?_
    try dsimp only
    refine ite_neg_eq (by first | decide | (simp; done) | (simp; omega)) ?_
    try dsimp only
    refine bind_eq (eqSource_refl _ (by assumption)) ?_
    try dsimp only
    all_goals first | rfl | simp
  try dsimp only
  refine ite_neg_eq (by first | decide | (simp; done) | (simp; omega)) ?_
  try dsimp only
  refine bind_eq (markReading_eq _ _ (by assumption) (by omega) (by omega)) ?_
  try dsimp only
  refine bind_eq (markSource_eq _ _ (by assumption) (by omega) (by omega)) ?_
  try dsimp only
  refine bind_eq (heldReading_eq _ _ (by assumption) (by omega) (by omega)) ?_
  try dsimp only
  refine ite_neg_eq (by first | decide | (simp; done) | (simp; omega)) ?_
  try dsimp only
  refine bind_eq (heldSource_eq _ _ (by assumption) (by omega) (by omega)) ?_
  try dsimp only
  refine ite_neg_eq (by first | decide | (simp; done) | (simp; omega)) ?_
  try dsimp only
  refine ite_neg_eq (by first | decide | (simp; done) | (simp; omega)) ?_
  try dsimp only
  apply bind_eq
  · refine bind_eq (toIntS_id _ (by assumption)) ?_
    try dsimp only
    refine bind_eq (toMethodS_id _ (by assumption)) ?_
    try dsimp only
    refine bind_eq (toSource_id _ (by assumption)) ?_
    try dsimp only
    refine bind_eq (toAccess_id _ (by assumption)) ?_
    try dsimp only
    refine bind_eq (toChangeS_id _ (by assumption)) ?_
    try dsimp only
    refine bind_eq (hM) ?_
    try dsimp only
    all_goals first | rfl | simp
  try dsimp only
  refine bind_eq (v := false) ?_ ?_
  · refine bind_eq (eqReading_refl _ (by assumption)) ?_
    try dsimp only
    refine ite_neg_eq (by first | decide | (simp; done) | (simp; omega)) ?_
    try dsimp only
    refine bind_eq (eqSource_refl _ (by assumption)) ?_
    try dsimp only
    all_goals first | rfl | simp
  try dsimp only
  refine ite_neg_eq (by first | decide | (simp; done) | (simp; omega)) ?_
  try dsimp only
  refine bind_eq (heldReading_eq _ _ (by assumption) (by omega) (by omega)) ?_
  try dsimp only
  refine ite_neg_eq (by first | decide | (simp; done) | (simp; omega)) ?_
  try dsimp only
  refine bind_eq (heldSource_eq _ _ (by assumption) (by omega) (by omega)) ?_
  try dsimp only
  refine ite_neg_eq (by first | decide | (simp; done) | (simp; omega)) ?_
  try dsimp only
  refine ite_neg_eq (by first | decide | (simp; done) | (simp; omega)) ?_
  try dsimp only
  all_goals first | rfl | simp
end Go.Gx.Px
