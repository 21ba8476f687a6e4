/- Plain laws: a function answers as its reference does: the law of it. Conditions: none. -/
import Derived.Test.YtbfmhlhjkbimmaaGreatDoorPpc
set_option linter.unusedVariables false
set_option linter.unusedSimpArgs false
namespace Go.Gx.Px
theorem p_FnExactParseCursor (a1 : Str) (h1 : Rng.r a1) : Q.FnExactParseCursor a1 = some true := by
  unfold Q.FnExactParseCursor
  try dsimp only
  by_cases c1 : (List.length a1 : Int) ≤ 1048576
  rotate_left
  · rw [if_pos (by simp; omega)]
  rw [if_neg (by simp; omega)]
  have z1 : SZ.sz a1 ≤ 1048576 := Int.ofNat_le.1 c1
  have s1 : SZ.sm a1 := SZ.of _ (Int.ofNat_le.2 z1)
  obtain ⟨r, hS, hM, hr⟩ := same_ParseCursor a1 z1 h1
  obtain ⟨⟨⟨r1_0_0, r1_0_1⟩, r1_1, r1_2⟩, r2⟩ := r
  have g1 : SZ.sm ((r1_0_0, r1_0_1), r1_1, r1_2) := hr.1
  have b_g1_0 : mszL r1_0_1 ≤ 1048576 := Nat.le_trans (mszL_bd g1.1.2) (by decide)
  have b_g1 : nvCursor ((r1_0_0, r1_0_1), r1_1, r1_2) ≤ 1048576 := by show mszL r1_0_1 ≤ _; omega
  refine bind_eq (hS) ?_
  try dsimp only
  refine bind_eq (hM) ?_
  try dsimp only
  refine bind_eq (v := false) ?_ ?_
  · refine bind_eq (eqCursor_refl _ (by assumption)) ?_
    try dsimp only
    refine ite_neg_eq (by first | decide | (simp; done) | (simp; omega)) ?_
    try dsimp only
    all_goals first | rfl | simp
  try dsimp only
  refine ite_neg_eq (by first | decide | (simp; done) | (simp; omega)) ?_
  try dsimp only
  refine bind_eq (markCursor_eq _ _ (by assumption) (by omega) (by omega)) ?_
  try dsimp only
  refine bind_eq (heldCursor_eq _ _ (by assumption) (by omega) (by omega)) ?_
  try dsimp only
  refine ite_neg_eq (by first | decide | (simp; done) | (simp; omega)) ?_
  try dsimp only
  refine ite_neg_eq (by first | decide | (simp; done) | (simp; omega)) ?_
  try dsimp only
  refine bind_eq (hM) ?_
  try dsimp only
  refine bind_eq (v := false) ?_ ?_
  · refine bind_eq (eqCursor_refl _ (by assumption)) ?_
    try dsimp only
    refine ite_neg_eq (by first | decide | (simp; done) | (simp; omega)) ?_
    try dsimp only
    all_goals first | rfl | simp
  try dsimp only
  refine ite_neg_eq (by first | decide | (simp; done) | (simp; omega)) ?_
  try dsimp only
  refine bind_eq (heldCursor_eq _ _ (by assumption) (by omega) (by omega)) ?_
  try dsimp only
  refine ite_neg_eq (by first | decide | (simp; done) | (simp; omega)) ?_
  try dsimp only
  refine ite_neg_eq (by first | decide | (simp; done) | (simp; omega)) ?_
  try dsimp only
  all_goals first | rfl | simp
end Go.Gx.Px
