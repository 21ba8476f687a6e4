/- Plain laws: a function answers as its reference does: the law of it. Conditions: none. -/
import Derived.Test.YtbgcgjhbnclpdaaDoorPqs7
set_option linter.unusedVariables false
set_option linter.unusedSimpArgs false
namespace Go.Gx.Px
theorem p_FnExactEncodeRequest (a1 : (Int × (List Int))) (a2 : Int) (h1 : Rng.r a1) (h2 : Rng.r a2) : Q.FnExactEncodeRequest a1 a2 = some true := by
  unfold Q.FnExactEncodeRequest
  obtain ⟨a1_0, a1_1⟩ := a1
  try dsimp only
  rw [szAccess_eq (a1_0, a1_1) (1048576) (by omega) (by omega) h1, Option.bind_some]
  by_cases c1 : (SZ.sz (a1_0, a1_1) : Int) ≤ 1048576
  rotate_left
  · rw [left_no c1, if_pos (by decide)]
  rw [left_ok c1, nn_if (by omega)]
  have z1 : SZ.sz (a1_0, a1_1) ≤ 1048576 := by omega
  have s1 : SZ.sm (a1_0, a1_1) := SZ.of _ (Int.ofNat_le.2 z1)
  have z2 : SZ.sz a2 ≤ 1048576 := Nat.zero_le _
  have s2 : SZ.sm a2 := SZ.of _ (Int.ofNat_le.2 z2)
  obtain ⟨r, hS, hM, hr⟩ := same_EncodeRequest (a1_0, a1_1) a2 z1 z2 h1 h2
  have g1 : SZ.sm r := hr
  refine bind_eq (toAccess_id _ (by assumption)) ?_
  try dsimp only
  refine bind_eq (hS) ?_
  try dsimp only
  refine bind_eq (toAccess_id _ (by assumption)) ?_
  try dsimp only
  refine bind_eq (hM) ?_
  try dsimp only
  refine ite_neg_eq (by first | decide | (simp; done) | (simp; omega)) ?_
  try dsimp only
  refine bind_eq (toAccess_id _ (by assumption)) ?_
  try dsimp only
  refine bind_eq (eqAccess_refl _ (by assumption)) ?_
  try dsimp only
  refine ite_neg_eq (by first | decide | (simp; done) | (simp; omega)) ?_
  try dsimp only
  all_goals first | rfl | simp
end Go.Gx.Px
