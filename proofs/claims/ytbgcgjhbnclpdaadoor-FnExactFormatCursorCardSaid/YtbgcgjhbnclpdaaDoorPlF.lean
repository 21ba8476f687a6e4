/- Plain laws: a function answers as its reference does: the law of it. Conditions: none. -/
import Derived.Test.YtbgcgjhbnclpdaaDoorPqs7
set_option linter.unusedVariables false
set_option linter.unusedSimpArgs false
namespace Go.Gx.Px
theorem p_FnExactFormatCursor (a1 : ((Int × (List Int)) × Int × Int)) (h1 : Rng.r a1) : Q.FnExactFormatCursor a1 = some true := by
  unfold Q.FnExactFormatCursor
  obtain ⟨⟨a1_0_0, a1_0_1⟩, a1_1, a1_2⟩ := a1
  try dsimp only
  rw [szCursor_eq ((a1_0_0, a1_0_1), a1_1, a1_2) (1048576) (by omega) (by omega) h1, Option.bind_some]
  by_cases c1 : (SZ.sz ((a1_0_0, a1_0_1), a1_1, a1_2) : Int) ≤ 1048576
  rotate_left
  · rw [left_no c1, if_pos (by decide)]
  rw [left_ok c1, nn_if (by omega)]
  have z1 : SZ.sz ((a1_0_0, a1_0_1), a1_1, a1_2) ≤ 1048576 := by omega
  have s1 : SZ.sm ((a1_0_0, a1_0_1), a1_1, a1_2) := SZ.of _ (Int.ofNat_le.2 z1)
  obtain ⟨r, hS, hM, hr⟩ := same_FormatCursor ((a1_0_0, a1_0_1), a1_1, a1_2) z1 h1
  have g1 : SZ.sm r := hr
  refine bind_eq (toCursor_id _ (by assumption)) ?_
  try dsimp only
  refine bind_eq (hS) ?_
  try dsimp only
  refine bind_eq (toCursor_id _ (by assumption)) ?_
  try dsimp only
  refine bind_eq (hM) ?_
  try dsimp only
  refine ite_neg_eq (by first | decide | (simp; done) | (simp; omega)) ?_
  try dsimp only
  refine bind_eq (toCursor_id _ (by assumption)) ?_
  try dsimp only
  refine bind_eq (eqCursor_refl _ (by assumption)) ?_
  try dsimp only
  refine ite_neg_eq (by first | decide | (simp; done) | (simp; omega)) ?_
  try dsimp only
  all_goals first | rfl | simp
end Go.Gx.Px
