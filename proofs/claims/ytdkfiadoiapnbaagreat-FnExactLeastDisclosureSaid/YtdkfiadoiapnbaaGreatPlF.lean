/- Plain laws: a function answers as its reference does: the law of it. Conditions: none. -/
import Derived.Test.YtdkfiadoiapnbaaGreatPqs8z
set_option linter.unusedVariables false
set_option linter.unusedSimpArgs false
namespace Go.Gx.Px
theorem p_FnExactLeastDisclosure (a1 : (List Int)) (a2 : (List (Int × (List Int) × Int × Int × Int))) (a3 : ((List Int) × (List (Int × (List Int))))) (a4 : (List Int)) (h1 : Rng.r a1) (h2 : Rng.r a2) (h3 : Rng.r a3) (h4 : Rng.r a4) : Q.FnExactLeastDisclosure a1 a2 a3 a4 = some true := by
  unfold Q.FnExactLeastDisclosure
  obtain ⟨a3_0, a3_1⟩ := a3
  try dsimp only
  by_cases c1 : (List.length a1 : Int) ≤ 1048576
  rotate_left
  · rw [if_pos (by simp; omega)]
  rw [if_neg (by simp; omega)]
  by_cases c4 : (List.length a4 : Int) ≤ 1048576
  rotate_left
  · rw [if_pos (by simp; omega)]
  rw [if_neg (by simp; omega)]
  rw [szMethodS_eq a2 (1048576) (by omega) (by omega) h2, Option.bind_some]
  by_cases c2 : (SZ.sz a2 : Int) ≤ 1048576
  rotate_left
  · rw [left_no c2, if_pos (by decide)]
  rw [left_ok c2, nn_if (by omega)]
  rw [szQuery_eq (a3_0, a3_1) (1048576 - (SZ.sz a2 : Int)) (by omega) (by omega) h3, Option.bind_some]
  by_cases c3 : (SZ.sz (a3_0, a3_1) : Int) ≤ 1048576 - (SZ.sz a2 : Int)
  rotate_left
  · rw [left_no c3, if_pos (by decide)]
  rw [left_ok c3, nn_if (by omega)]
  have z1 : SZ.sz a1 ≤ 1048576 := by rw [sz_flat (fun _ => rfl)]; exact Int.ofNat_le.1 c1
  have s1 : SZ.sm a1 := SZ.of _ (Int.ofNat_le.2 z1)
  have z2 : SZ.sz a2 ≤ 1048576 := by omega
  have s2 : SZ.sm a2 := SZ.of _ (Int.ofNat_le.2 z2)
  have z3 : SZ.sz (a3_0, a3_1) ≤ 1048576 := by omega
  have s3 : SZ.sm (a3_0, a3_1) := SZ.of _ (Int.ofNat_le.2 z3)
  have z4 : SZ.sz a4 ≤ 1048576 := by rw [sz_flat (fun _ => rfl)]; exact Int.ofNat_le.1 c4
  have s4 : SZ.sm a4 := SZ.of _ (Int.ofNat_le.2 z4)
  obtain ⟨r, hS, hM, hr⟩ := same_LeastDisclosure a1 a2 (a3_0, a3_1) a4 z1 z2 z3 z4 h1 h2 h3 h4
  obtain ⟨r1, r2⟩ := r
  have g1 : SZ.sm r1 := hr.1
  have b_s1 : mszL a1 ≤ 1048576 := Nat.le_trans (mszL_bd s1) (by decide)
  have b_s2 : mszL a2 ≤ 1099515822080 := Nat.le_trans (mszL_bd s2) (by decide)
  have b_s3_0 : mszL a3_0 ≤ 1048576 := Nat.le_trans (mszL_bd s3.1) (by decide)
  have b_s3_1 : mszL a3_1 ≤ 1099512676352 := Nat.le_trans (mszL_bd s3.2) (by decide)
  have b_s3 : nvQuery (a3_0, a3_1) ≤ 1099513724928 := by show mszL a3_0 + mszL a3_1 ≤ _; omega
  have b_s4 : mszL a4 ≤ 1048576 := Nat.le_trans (mszL_bd s4) (by decide)
  have b_g1 : mszL r1 ≤ 1048576 := Nat.le_trans (mszL_bd g1) (by decide)
  refine bind_eq (toIntS_id _ (by assumption)) ?_
  try dsimp only
  refine bind_eq (toMethodS_id _ (by assumption)) ?_
  try dsimp only
  refine bind_eq (toQuery_id _ (by assumption)) ?_
  try dsimp only
  refine bind_eq (toIntS_id _ (by assumption)) ?_
  try dsimp only
  refine bind_eq (hS) ?_
  try dsimp only
  refine bind_eq (toIntS_id _ (by assumption)) ?_
  try dsimp only
  refine bind_eq (toMethodS_id _ (by assumption)) ?_
  try dsimp only
  refine bind_eq (toQuery_id _ (by assumption)) ?_
  try dsimp only
  refine bind_eq (toIntS_id _ (by assumption)) ?_
  try dsimp only
  refine bind_eq (hM) ?_
  try dsimp only
  refine bind_eq (v := false) ?_ ?_
  · refine bind_eq (eqIntS_refl _ (by assumption)) ?_
    try dsimp only
    refine ite_neg_eq (by first | decide | (simp; done) | (simp; omega)) ?_
    try dsimp only
    all_goals first | rfl | simp
  try dsimp only
  refine ite_neg_eq (by first | decide | (simp; done) | (simp; omega)) ?_
  try dsimp only
  refine bind_eq (toIntS_id _ (by assumption)) ?_
  try dsimp only
  refine bind_eq (eqIntS_refl _ (by assumption)) ?_
  try dsimp only
  refine ite_neg_eq (by first | decide | (simp; done) | (simp; omega)) ?_
  try dsimp only
  refine bind_eq (toMethodS_id _ (by assumption)) ?_
  try dsimp only
  refine bind_eq (eqMethodS_refl _ (by assumption)) ?_
  try dsimp only
  refine ite_neg_eq (by first | decide | (simp; done) | (simp; omega)) ?_
  try dsimp only
  refine bind_eq (toQuery_id _ (by assumption)) ?_
  try dsimp only
  refine bind_eq (eqQuery_refl _ (by assumption)) ?_
  try dsimp only
  refine ite_neg_eq (by first | decide | (simp; done) | (simp; omega)) ?_
  try dsimp only
  refine bind_eq (toIntS_id _ (by assumption)) ?_
  try dsimp only
  refine bind_eq (eqIntS_refl _ (by assumption)) ?_
  try dsimp only
  refine ite_neg_eq (by first | decide | (simp; done) | (simp; omega)) ?_
  try dsimp only
  refine bind_eq (markIntS_eq _ _ (by assumption) (by omega) (by omega)) ?_
  try dsimp only
  refine bind_eq (markMethodS_eq _ _ (by assumption) (by omega) (by omega)) ?_
  try dsimp only
  refine bind_eq (markQuery_eq _ _ (by assumption) (by omega) (by omega)) ?_
  try dsimp only
  refine bind_eq (markIntS_eq _ _ (by assumption) (by omega) (by omega)) ?_
  try dsimp only
  refine bind_eq (v := false) ?_ ?_
  · refine ite_neg_eq (by first | decide | (simp; done) | (simp; omega)) ?_
    try dsimp only
    refine bind_eq (eqIntS_refl _ (by assumption)) ?_
    try dsimp only
    refine ite_neg_eq (by first | decide | (simp; done) | (simp; omega)) ?_
    try dsimp only
    all_goals first | rfl | simp
  try dsimp only
  refine ite_neg_eq (by first | decide | (simp; done) | (simp; omega)) ?_
  try dsimp only
  refine bind_eq (markIntS_eq _ _ (by assumption) (by omega) (by omega)) ?_
  try dsimp only
  refine bind_eq (heldIntS_eq _ _ (by assumption) (by omega) (by omega)) ?_
  try dsimp only
  refine ite_neg_eq (by first | decide | (simp; done) | (simp; omega)) ?_
  try dsimp only
  refine ite_neg_eq (by first | decide | (simp; done) | (simp; omega)) ?_
  try dsimp only
  refine bind_eq (toIntS_id _ (by assumption)) ?_
  try dsimp only
  refine bind_eq (toMethodS_id _ (by assumption)) ?_
  try dsimp only
  refine bind_eq (toQuery_id _ (by assumption)) ?_
  try dsimp only
  refine bind_eq (toIntS_id _ (by assumption)) ?_
  try dsimp only
  refine bind_eq (hM) ?_
  try dsimp only
  refine bind_eq (v := false) ?_ ?_
  · refine bind_eq (eqIntS_refl _ (by assumption)) ?_
    try dsimp only
    refine ite_neg_eq (by first | decide | (simp; done) | (simp; omega)) ?_
    try dsimp only
    all_goals first | rfl | simp
  try dsimp only
  refine ite_neg_eq (by first | decide | (simp; done) | (simp; omega)) ?_
  try dsimp only
  refine bind_eq (heldIntS_eq _ _ (by assumption) (by omega) (by omega)) ?_
  try dsimp only
  refine ite_neg_eq (by first | decide | (simp; done) | (simp; omega)) ?_
  try dsimp only
  refine ite_neg_eq (by first | decide | (simp; done) | (simp; omega)) ?_
  try dsimp only
  all_goals first | rfl | simp
end Go.Gx.Px
