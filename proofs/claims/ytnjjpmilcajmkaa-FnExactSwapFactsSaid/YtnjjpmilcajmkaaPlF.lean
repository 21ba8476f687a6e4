/- Plain laws: a function answers as its reference does: the law of it. Conditions: none. -/
import Derived.Test.YtnjjpmilcajmkaaPsw
set_option linter.unusedVariables false
set_option linter.unusedSimpArgs false
namespace Go.Gx.Px
theorem p_FnExactSwapFacts (a1 : (List (Int × (List Int)))) (a2 : Int) (a3 : Int) (h1 : Rng.r a1) (h2 : Rng.r a2) (h3 : Rng.r a3) : Q.FnExactSwapFacts a1 a2 a3 = some true := by
  unfold Q.FnExactSwapFacts
  try dsimp only
  rw [szFactS_eq a1 (1048576) (by omega) (by omega) h1, Option.bind_some]
  by_cases c1 : (SZ.sz a1 : Int) ≤ 1048576
  rotate_left
  · rw [left_no c1, if_pos (by decide)]
  rw [left_ok c1, nn_if (by omega)]
  have z1 : SZ.sz a1 ≤ 1048576 := by omega
  have s1 : SZ.sm a1 := SZ.of _ (Int.ofNat_le.2 z1)
  have z2 : SZ.sz a2 ≤ 1048576 := Nat.zero_le _
  have s2 : SZ.sm a2 := SZ.of _ (Int.ofNat_le.2 z2)
  have z3 : SZ.sz a3 ≤ 1048576 := Nat.zero_le _
  have s3 : SZ.sm a3 := SZ.of _ (Int.ofNat_le.2 z3)
  obtain ⟨r, hS, hM, hr⟩ := same_SwapFacts a1 a2 a3 z1 z2 z3 h1 h2 h3
  have g1 : SZ.sm r := hr
  have b_s1 : mszL a1 ≤ 1099512676352 := Nat.le_trans (mszL_bd s1) (by decide)
  have b_g1 : mszL r ≤ 1099512676352 := Nat.le_trans (mszL_bd g1) (by decide)
  refine bind_eq (toFactS_id _ (by assumption)) ?_
  try dsimp only
  refine bind_eq (hS) ?_
  try dsimp only
  refine bind_eq (toFactS_id _ (by assumption)) ?_
  try dsimp only
  refine bind_eq (hM) ?_
  try dsimp only
  refine bind_eq (eqFactS_refl _ (by assumption)) ?_
  try dsimp only
  refine ite_neg_eq (by first | decide | (simp; done) | (simp; omega)) ?_
  try dsimp only
  refine bind_eq (toFactS_id _ (by assumption)) ?_
  try dsimp only
  refine bind_eq (eqFactS_refl _ (by assumption)) ?_
  try dsimp only
  refine ite_neg_eq (by first | decide | (simp; done) | (simp; omega)) ?_
  try dsimp only
  refine bind_eq (markFactS_eq _ _ (by assumption) (by omega) (by omega)) ?_
  try dsimp only
  refine bind_eq (v := false) ?_ ?_
  · refine ite_neg_eq (by first | decide | (simp; done) | (simp; omega)) ?_
    try dsimp only
    refine bind_eq (eqFactS_refl _ (by assumption)) ?_
    try dsimp only
    all_goals first | rfl | simp
  try dsimp only
  refine ite_neg_eq (by first | decide | (simp; done) | (simp; omega)) ?_
  try dsimp only
  refine bind_eq (markFactS_eq _ _ (by assumption) (by omega) (by omega)) ?_
  try dsimp only
  refine bind_eq (heldFactS_eq _ _ (by assumption) (by omega) (by omega)) ?_
  try dsimp only
  refine ite_neg_eq (by first | decide | (simp; done) | (simp; omega)) ?_
  try dsimp only
  refine ite_neg_eq (by first | decide | (simp; done) | (simp; omega)) ?_
  try dsimp only
  refine bind_eq (toFactS_id _ (by assumption)) ?_
  try dsimp only
  refine bind_eq (hM) ?_
  try dsimp only
  refine bind_eq (eqFactS_refl _ (by assumption)) ?_
  try dsimp only
  refine ite_neg_eq (by first | decide | (simp; done) | (simp; omega)) ?_
  try dsimp only
  refine bind_eq (heldFactS_eq _ _ (by assumption) (by omega) (by omega)) ?_
  try dsimp only
  refine ite_neg_eq (by first | decide | (simp; done) | (simp; omega)) ?_
  try dsimp only
  refine ite_neg_eq (by first | decide | (simp; done) | (simp; omega)) ?_
  try dsimp only
  all_goals first | rfl | simp
end Go.Gx.Px
