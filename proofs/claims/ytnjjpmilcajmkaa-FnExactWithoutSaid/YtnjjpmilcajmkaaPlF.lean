/- Plain laws: a function answers as its reference does: the law of it. Conditions: none. -/
import Derived.Test.YtnjjpmilcajmkaaPw
set_option linter.unusedVariables false
set_option linter.unusedSimpArgs false
namespace Go.Gx.Px
theorem p_FnExactWithout (a1 : (List ((Int × (List Int)) × (List (Int × (List Int)))))) (a2 : (List Int)) (h1 : Rng.r a1) (h2 : Rng.r a2) : Q.FnExactWithout a1 a2 = some true := by
  unfold Q.FnExactWithout
  try dsimp only
  by_cases c2 : (List.length a2 : Int) ≤ 1048576
  rotate_left
  · rw [if_pos (by simp; omega)]
  rw [if_neg (by simp; omega)]
  rw [szToldS_eq a1 (1048576) (by omega) (by omega) h1, Option.bind_some]
  by_cases c1 : (SZ.sz a1 : Int) ≤ 1048576
  rotate_left
  · rw [left_no c1, if_pos (by decide)]
  rw [left_ok c1, nn_if (by omega)]
  have z1 : SZ.sz a1 ≤ 1048576 := by omega
  have s1 : SZ.sm a1 := SZ.of _ (Int.ofNat_le.2 z1)
  have z2 : SZ.sz a2 ≤ 1048576 := by rw [sz_flat (fun _ => rfl)]; exact Int.ofNat_le.1 c2
  have s2 : SZ.sm a2 := SZ.of _ (Int.ofNat_le.2 z2)
  obtain ⟨r, hS, hM, hr⟩ := same_Without a1 a2 z1 z2 h1 h2
  have g1 : SZ.sm r := hr
  have b_s1 : mszL a1 ≤ 1152923703631151104 := Nat.le_trans (mszL_bd s1) (by decide)
  have b_s2 : mszL a2 ≤ 1048576 := Nat.le_trans (mszL_bd s2) (by decide)
  have b_g1 : mszL r ≤ 1152923703631151104 := Nat.le_trans (mszL_bd g1) (by decide)
  refine bind_eq (toToldS_id _ (by assumption)) ?_
  try dsimp only
  refine bind_eq (toIntS_id _ (by assumption)) ?_
  try dsimp only
  refine bind_eq (hS) ?_
  try dsimp only
  refine bind_eq (toToldS_id _ (by assumption)) ?_
  try dsimp only
  refine bind_eq (toIntS_id _ (by assumption)) ?_
  try dsimp only
  refine bind_eq (hM) ?_
  try dsimp only
  refine bind_eq (eqToldS_refl _ (by assumption)) ?_
  try dsimp only
  refine ite_neg_eq (by first | decide | (simp; done) | (simp; omega)) ?_
  try dsimp only
  refine bind_eq (toToldS_id _ (by assumption)) ?_
  try dsimp only
  refine bind_eq (eqToldS_refl _ (by assumption)) ?_
  try dsimp only
  refine ite_neg_eq (by first | decide | (simp; done) | (simp; omega)) ?_
  try dsimp only
  refine bind_eq (toIntS_id _ (by assumption)) ?_
  try dsimp only
  refine bind_eq (eqIntS_refl _ (by assumption)) ?_
  try dsimp only
  refine ite_neg_eq (by first | decide | (simp; done) | (simp; omega)) ?_
  try dsimp only
  refine bind_eq (markToldS_eq _ _ (by assumption) (by omega) (by omega)) ?_
  try dsimp only
  refine bind_eq (markIntS_eq _ _ (by assumption) (by omega) (by omega)) ?_
  try dsimp only
  refine bind_eq (v := false) ?_ ?_
  · refine ite_neg_eq (by first | decide | (simp; done) | (simp; omega)) ?_
    try dsimp only
    refine bind_eq (eqToldS_refl _ (by assumption)) ?_
    try dsimp only
    all_goals first | rfl | simp
  try dsimp only
  refine ite_neg_eq (by first | decide | (simp; done) | (simp; omega)) ?_
  try dsimp only
  refine bind_eq (markToldS_eq _ _ (by assumption) (by omega) (by omega)) ?_
  try dsimp only
  refine bind_eq (heldToldS_eq _ _ (by assumption) (by omega) (by omega)) ?_
  try dsimp only
  refine ite_neg_eq (by first | decide | (simp; done) | (simp; omega)) ?_
  try dsimp only
  refine ite_neg_eq (by first | decide | (simp; done) | (simp; omega)) ?_
  try dsimp only
  refine bind_eq (toToldS_id _ (by assumption)) ?_
  try dsimp only
  refine bind_eq (toIntS_id _ (by assumption)) ?_
  try dsimp only
  refine bind_eq (hM) ?_
  try dsimp only
  refine bind_eq (eqToldS_refl _ (by assumption)) ?_
  try dsimp only
  refine ite_neg_eq (by first | decide | (simp; done) | (simp; omega)) ?_
  try dsimp only
  refine bind_eq (heldToldS_eq _ _ (by assumption) (by omega) (by omega)) ?_
  try dsimp only
  refine ite_neg_eq (by first | decide | (simp; done) | (simp; omega)) ?_
  try dsimp only
  refine ite_neg_eq (by first | decide | (simp; done) | (simp; omega)) ?_
  try dsimp only
  all_goals first | rfl | simp
end Go.Gx.Px
