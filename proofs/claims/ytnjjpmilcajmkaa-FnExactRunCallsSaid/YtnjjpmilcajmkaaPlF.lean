/- Plain laws: a function answers as its reference does: the law of it. Conditions: none. -/
import Derived.Test.YtnjjpmilcajmkaaPv
set_option linter.unusedVariables false
set_option linter.unusedSimpArgs false
namespace Go.Gx.Px
theorem p_FnExactRunCalls (a1 : ((List Int) × Int × Int)) (a2 : (List (Int × Int × Int × Bool))) (a3 : (List Int)) (h1 : Rng.r a1) (h2 : Rng.r a2) (h3 : Rng.r a3) : Q.FnExactRunCalls a1 a2 a3 = some true := by
  unfold Q.FnExactRunCalls
  obtain ⟨a1_0, a1_1, a1_2⟩ := a1
  try dsimp only
  by_cases c3 : (List.length a3 : Int) ≤ 1048576
  rotate_left
  · rw [if_pos (by simp; omega)]
  rw [if_neg (by simp; omega)]
  rw [szLedger_eq (a1_0, a1_1, a1_2) (1048576) (by omega) (by omega) h1, Option.bind_some]
  by_cases c1 : (SZ.sz (a1_0, a1_1, a1_2) : Int) ≤ 1048576
  rotate_left
  · rw [left_no c1, if_pos (by decide)]
  rw [left_ok c1, nn_if (by omega)]
  rw [szCallS_eq a2 (1048576 - (SZ.sz (a1_0, a1_1, a1_2) : Int)) (by omega) (by omega) h2, Option.bind_some]
  by_cases c2 : (SZ.sz a2 : Int) ≤ 1048576 - (SZ.sz (a1_0, a1_1, a1_2) : Int)
  rotate_left
  · rw [left_no c2, if_pos (by decide)]
  rw [left_ok c2, nn_if (by omega)]
  have z1 : SZ.sz (a1_0, a1_1, a1_2) ≤ 1048576 := by omega
  have s1 : SZ.sm (a1_0, a1_1, a1_2) := SZ.of _ (Int.ofNat_le.2 z1)
  have z2 : SZ.sz a2 ≤ 1048576 := by omega
  have s2 : SZ.sm a2 := SZ.of _ (Int.ofNat_le.2 z2)
  have z3 : SZ.sz a3 ≤ 1048576 := by rw [sz_flat (fun _ => rfl)]; exact Int.ofNat_le.1 c3
  have s3 : SZ.sm a3 := SZ.of _ (Int.ofNat_le.2 z3)
  obtain ⟨r, hS, hM, hr⟩ := same_RunCalls (a1_0, a1_1, a1_2) a2 a3 z1 z2 z3 h1 h2 h3
  obtain ⟨⟨r1_0, r1_1, r1_2⟩, r2⟩ := r
  have g1 : SZ.sm (r1_0, r1_1, r1_2) := hr.1
  have g2 : SZ.sm r2 := hr.2
  have b_s1_0 : mszL a1_0 ≤ 1048576 := Nat.le_trans (mszL_bd s1.1) (by decide)
  have b_s1 : nvLedger (a1_0, a1_1, a1_2) ≤ 1048576 := by show mszL a1_0 ≤ _; omega
  have b_s2 : mszL a2 ≤ 4194304 := Nat.le_trans (mszL_bd s2) (by decide)
  have b_s3 : mszL a3 ≤ 1048576 := Nat.le_trans (mszL_bd s3) (by decide)
  have b_g1_0 : mszL r1_0 ≤ 1048576 := Nat.le_trans (mszL_bd g1.1) (by decide)
  have b_g1 : nvLedger (r1_0, r1_1, r1_2) ≤ 1048576 := by show mszL r1_0 ≤ _; omega
  have b_g2 : mszL r2 ≤ 4194304 := Nat.le_trans (mszL_bd g2) (by decide)
  refine bind_eq (toLedger_id _ (by assumption)) ?_
  try dsimp only
  refine bind_eq (toCallS_id _ (by assumption)) ?_
  try dsimp only
  refine bind_eq (toIntS_id _ (by assumption)) ?_
  try dsimp only
  refine bind_eq (hS) ?_
  try dsimp only
  refine bind_eq (toLedger_id _ (by assumption)) ?_
  try dsimp only
  refine bind_eq (toCallS_id _ (by assumption)) ?_
  try dsimp only
  refine bind_eq (toIntS_id _ (by assumption)) ?_
  try dsimp only
  refine bind_eq (hM) ?_
  try dsimp only
  refine bind_eq (v := false) ?_ ?_
  · refine bind_eq (eqLedger_refl _ (by assumption)) ?_
    try dsimp only
    refine ite_neg_eq (by first | decide | (simp; done) | (simp; omega)) ?_
    try dsimp only
    refine bind_eq (eqCallS_refl _ (by assumption)) ?_
    try dsimp only
    all_goals first | rfl | simp
  try dsimp only
  refine ite_neg_eq (by first | decide | (simp; done) | (simp; omega)) ?_
  try dsimp only
  refine bind_eq (toLedger_id _ (by assumption)) ?_
  try dsimp only
  refine bind_eq (eqLedger_refl _ (by assumption)) ?_
  try dsimp only
  refine ite_neg_eq (by first | decide | (simp; done) | (simp; omega)) ?_
  try dsimp only
  refine bind_eq (toCallS_id _ (by assumption)) ?_
  try dsimp only
  refine bind_eq (eqCallS_refl _ (by assumption)) ?_
  try dsimp only
  refine ite_neg_eq (by first | decide | (simp; done) | (simp; omega)) ?_
  try dsimp only
  refine bind_eq (toIntS_id _ (by assumption)) ?_
  try dsimp only
  refine bind_eq (eqIntS_refl _ (by assumption)) ?_
  try dsimp only
  refine ite_neg_eq (by first | decide | (simp; done) | (simp; omega)) ?_
  try dsimp only
  refine bind_eq (markLedger_eq _ _ (by assumption) (by omega) (by omega)) ?_
  try dsimp only
  refine bind_eq (markCallS_eq _ _ (by assumption) (by omega) (by omega)) ?_
  try dsimp only
  refine bind_eq (markIntS_eq _ _ (by assumption) (by omega) (by omega)) ?_
  try dsimp only
  refine bind_eq (v := false) ?_ ?_
  · refine ite_neg_eq (by first | decide | (simp; done) | (simp; omega)) ?_
    try dsimp only
    refine bind_eq (eqLedger_refl _ (by assumption)) ?_
    try dsimp only
    refine ite_neg_eq (by first | decide | (simp; done) | (simp; omega)) ?_
    try dsimp only
    refine bind_eq (eqCallS_refl _ (by assumption)) ?_
    try dsimp only
    all_goals first | rfl | simp
  try dsimp only
  refine ite_neg_eq (by first | decide | (simp; done) | (simp; omega)) ?_
  try dsimp only
  refine bind_eq (markLedger_eq _ _ (by assumption) (by omega) (by omega)) ?_
  try dsimp only
  refine bind_eq (markCallS_eq _ _ (by assumption) (by omega) (by omega)) ?_
  try dsimp only
  refine bind_eq (heldLedger_eq _ _ (by assumption) (by omega) (by omega)) ?_
  try dsimp only
  refine ite_neg_eq (by first | decide | (simp; done) | (simp; omega)) ?_
  try dsimp only
  refine bind_eq (heldCallS_eq _ _ (by assumption) (by omega) (by omega)) ?_
  try dsimp only
  refine ite_neg_eq (by first | decide | (simp; done) | (simp; omega)) ?_
  try dsimp only
  refine ite_neg_eq (by first | decide | (simp; done) | (simp; omega)) ?_
  try dsimp only
  refine bind_eq (toLedger_id _ (by assumption)) ?_
  try dsimp only
  refine bind_eq (toCallS_id _ (by assumption)) ?_
  try dsimp only
  refine bind_eq (toIntS_id _ (by assumption)) ?_
  try dsimp only
  refine bind_eq (hM) ?_
  try dsimp only
  refine bind_eq (v := false) ?_ ?_
  · refine bind_eq (eqLedger_refl _ (by assumption)) ?_
    try dsimp only
    refine ite_neg_eq (by first | decide | (simp; done) | (simp; omega)) ?_
    try dsimp only
    refine bind_eq (eqCallS_refl _ (by assumption)) ?_
    try dsimp only
    all_goals first | rfl | simp
  try dsimp only
  refine ite_neg_eq (by first | decide | (simp; done) | (simp; omega)) ?_
  try dsimp only
  refine bind_eq (heldLedger_eq _ _ (by assumption) (by omega) (by omega)) ?_
  try dsimp only
  refine ite_neg_eq (by first | decide | (simp; done) | (simp; omega)) ?_
  try dsimp only
  refine bind_eq (heldCallS_eq _ _ (by assumption) (by omega) (by omega)) ?_
  try dsimp only
  refine ite_neg_eq (by first | decide | (simp; done) | (simp; omega)) ?_
  try dsimp only
  refine ite_neg_eq (by first | decide | (simp; done) | (simp; omega)) ?_
  try dsimp only
  all_goals first | rfl | simp
end Go.Gx.Px
