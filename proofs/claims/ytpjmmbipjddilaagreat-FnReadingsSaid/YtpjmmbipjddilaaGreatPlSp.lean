/- Plain laws: looking for an element, printed by program. Conditions: none. -/
import Derived.Test.YtpjmmbipjddilaaGreatPlL
set_option linter.unusedVariables false
set_option linter.unusedSimpArgs false
namespace Go.Gx.Px
theorem Slices_IndexFunc_Lint_int_M_IsSchema_c1_eq (a1 : (List Int)) (q : Int → Bool) (hn : a1.length ≤ 4294967296) (hq : ∀ e ∈ a1, M.IsSchema_c1 e = some (q e)) : Slices.IndexFunc_Lint_int_M_IsSchema_c1 a1 = some (fidx q a1 0) := by
 unfold Slices.IndexFunc_Lint_int_M_IsSchema_c1
 rw [index_loop (Slices.IndexFunc_Lint_int_M_IsSchema_c1_l1 a1) a1 q hn (fun k => by rw [Slices.IndexFunc_Lint_int_M_IsSchema_c1_l1, if_neg (by simp)]) (fun k i hi => by
  have h := hq _ (List.getElem_mem hi)
  rw [Slices.IndexFunc_Lint_int_M_IsSchema_c1_l1, if_pos (by simpa using hi), idx_nat _ hi, Option.bind_some, h, Option.bind_some, w64_succ (by omega)])]
 rcases fidx_spec q a1 0 with ⟨h1, h2⟩ | ⟨j, hj, h1, h2, h3⟩
 ·rw [h2, h1]; rfl
 ·have : a1.any q = true := List.any_eq_true.2 ⟨_, List.getElem_mem hj, h2⟩
  rw [this]; rfl
theorem Slices_ContainsFunc_Lint_int_M_IsSchema_c1_eq (a1 : (List Int)) (q : Int → Bool) (hn : a1.length ≤ 4294967296) (hq : ∀ e ∈ a1, M.IsSchema_c1 e = some (q e)) : Slices.ContainsFunc_Lint_int_M_IsSchema_c1 a1 = some (a1.any q) := by
 unfold Slices.ContainsFunc_Lint_int_M_IsSchema_c1
 rw [Slices_IndexFunc_Lint_int_M_IsSchema_c1_eq a1 q hn hq, Option.bind_some]
 congr 1
 rw [Bool.eq_iff_iff]
 simp only [decide_eq_true_eq]
 exact fidx_nn q _ 0
theorem Slices_IndexFunc_Lint_int_M_areValues_c1_eq (a1 : (List Int)) (q : Int → Bool) (hn : a1.length ≤ 4294967296) (hq : ∀ e ∈ a1, M.areValues_c1 e = some (q e)) : Slices.IndexFunc_Lint_int_M_areValues_c1 a1 = some (fidx q a1 0) := by
 unfold Slices.IndexFunc_Lint_int_M_areValues_c1
 rw [index_loop (Slices.IndexFunc_Lint_int_M_areValues_c1_l1 a1) a1 q hn (fun k => by rw [Slices.IndexFunc_Lint_int_M_areValues_c1_l1, if_neg (by simp)]) (fun k i hi => by
  have h := hq _ (List.getElem_mem hi)
  rw [Slices.IndexFunc_Lint_int_M_areValues_c1_l1, if_pos (by simpa using hi), idx_nat _ hi, Option.bind_some, h, Option.bind_some, w64_succ (by omega)])]
 rcases fidx_spec q a1 0 with ⟨h1, h2⟩ | ⟨j, hj, h1, h2, h3⟩
 ·rw [h2, h1]; rfl
 ·have : a1.any q = true := List.any_eq_true.2 ⟨_, List.getElem_mem hj, h2⟩
  rw [this]; rfl
theorem Slices_ContainsFunc_Lint_int_M_areValues_c1_eq (a1 : (List Int)) (q : Int → Bool) (hn : a1.length ≤ 4294967296) (hq : ∀ e ∈ a1, M.areValues_c1 e = some (q e)) : Slices.ContainsFunc_Lint_int_M_areValues_c1 a1 = some (a1.any q) := by
 unfold Slices.ContainsFunc_Lint_int_M_areValues_c1
 rw [Slices_IndexFunc_Lint_int_M_areValues_c1_eq a1 q hn hq, Option.bind_some]
 congr 1
 rw [Bool.eq_iff_iff]
 simp only [decide_eq_true_eq]
 exact fidx_nn q _ 0
theorem Slices_IndexFunc_Limpl_Fact_impl_Fact_M_HasFact_c1_eq (a1 : (List (Int × (List Int)))) (ax1 : (Int × (List Int))) (q : (Int × (List Int)) → Bool) (hn : a1.length ≤ 4294967296) (hq : ∀ e ∈ a1, M.HasFact_c1 e ax1 = some (q e)) : Slices.IndexFunc_Limpl_Fact_impl_Fact_M_HasFact_c1 a1 ax1 = some (fidx q a1 0) := by
 unfold Slices.IndexFunc_Limpl_Fact_impl_Fact_M_HasFact_c1
 rw [index_loop (Slices.IndexFunc_Limpl_Fact_impl_Fact_M_HasFact_c1_l1 a1 ax1) a1 q hn (fun k => by rw [Slices.IndexFunc_Limpl_Fact_impl_Fact_M_HasFact_c1_l1, if_neg (by simp)]) (fun k i hi => by
  have h := hq _ (List.getElem_mem hi)
  rw [Slices.IndexFunc_Limpl_Fact_impl_Fact_M_HasFact_c1_l1, if_pos (by simpa using hi), idx_nat _ hi, Option.bind_some, h, Option.bind_some, w64_succ (by omega)])]
 rcases fidx_spec q a1 0 with ⟨h1, h2⟩ | ⟨j, hj, h1, h2, h3⟩
 ·rw [h2, h1]; rfl
 ·have : a1.any q = true := List.any_eq_true.2 ⟨_, List.getElem_mem hj, h2⟩
  rw [this]; rfl
theorem Slices_ContainsFunc_Limpl_Fact_impl_Fact_M_HasFact_c1_eq (a1 : (List (Int × (List Int)))) (ax1 : (Int × (List Int))) (q : (Int × (List Int)) → Bool) (hn : a1.length ≤ 4294967296) (hq : ∀ e ∈ a1, M.HasFact_c1 e ax1 = some (q e)) : Slices.ContainsFunc_Limpl_Fact_impl_Fact_M_HasFact_c1 a1 ax1 = some (a1.any q) := by
 unfold Slices.ContainsFunc_Limpl_Fact_impl_Fact_M_HasFact_c1
 rw [Slices_IndexFunc_Limpl_Fact_impl_Fact_M_HasFact_c1_eq a1 ax1 q hn hq, Option.bind_some]
 congr 1
 rw [Bool.eq_iff_iff]
 simp only [decide_eq_true_eq]
 exact fidx_nn q _ 0
theorem Slices_IndexFunc_Limpl_Fact_impl_Fact_M_added_c1_eq (a1 : (List (Int × (List Int)))) (ax1 : (Int × (List Int))) (q : (Int × (List Int)) → Bool) (hn : a1.length ≤ 4294967296) (hq : ∀ e ∈ a1, M.added_c1 e ax1 = some (q e)) : Slices.IndexFunc_Limpl_Fact_impl_Fact_M_added_c1 a1 ax1 = some (fidx q a1 0) := by
 unfold Slices.IndexFunc_Limpl_Fact_impl_Fact_M_added_c1
 rw [index_loop (Slices.IndexFunc_Limpl_Fact_impl_Fact_M_added_c1_l1 a1 ax1) a1 q hn (fun k => by rw [Slices.IndexFunc_Limpl_Fact_impl_Fact_M_added_c1_l1, if_neg (by simp)]) (fun k i hi => by
  have h := hq _ (List.getElem_mem hi)
  rw [Slices.IndexFunc_Limpl_Fact_impl_Fact_M_added_c1_l1, if_pos (by simpa using hi), idx_nat _ hi, Option.bind_some, h, Option.bind_some, w64_succ (by omega)])]
 rcases fidx_spec q a1 0 with ⟨h1, h2⟩ | ⟨j, hj, h1, h2, h3⟩
 ·rw [h2, h1]; rfl
 ·have : a1.any q = true := List.any_eq_true.2 ⟨_, List.getElem_mem hj, h2⟩
  rw [this]; rfl
theorem Slices_IndexFunc_Limpl_Fact_impl_Fact_M_ApplyChange_c1_eq (a1 : (List (Int × (List Int)))) (ax1 : (Bool × (Int × (List Int)))) (q : (Int × (List Int)) → Bool) (hn : a1.length ≤ 4294967296) (hq : ∀ e ∈ a1, M.ApplyChange_c1 e ax1 = some (q e)) : Slices.IndexFunc_Limpl_Fact_impl_Fact_M_ApplyChange_c1 a1 ax1 = some (fidx q a1 0) := by
 unfold Slices.IndexFunc_Limpl_Fact_impl_Fact_M_ApplyChange_c1
 rw [index_loop (Slices.IndexFunc_Limpl_Fact_impl_Fact_M_ApplyChange_c1_l1 a1 ax1) a1 q hn (fun k => by rw [Slices.IndexFunc_Limpl_Fact_impl_Fact_M_ApplyChange_c1_l1, if_neg (by simp)]) (fun k i hi => by
  have h := hq _ (List.getElem_mem hi)
  rw [Slices.IndexFunc_Limpl_Fact_impl_Fact_M_ApplyChange_c1_l1, if_pos (by simpa using hi), idx_nat _ hi, Option.bind_some, h, Option.bind_some, w64_succ (by omega)])]
 rcases fidx_spec q a1 0 with ⟨h1, h2⟩ | ⟨j, hj, h1, h2, h3⟩
 ·rw [h2, h1]; rfl
 ·have : a1.any q = true := List.any_eq_true.2 ⟨_, List.getElem_mem hj, h2⟩
  rw [this]; rfl
theorem Slices_IndexFunc_Lint_int_M_Method_fits_c1_eq (a1 : (List Int)) (ax1 : Int) (q : Int → Bool) (hn : a1.length ≤ 4294967296) (hq : ∀ e ∈ a1, M.Method_fits_c1 e ax1 = some (q e)) : Slices.IndexFunc_Lint_int_M_Method_fits_c1 a1 ax1 = some (fidx q a1 0) := by
 unfold Slices.IndexFunc_Lint_int_M_Method_fits_c1
 rw [index_loop (Slices.IndexFunc_Lint_int_M_Method_fits_c1_l1 a1 ax1) a1 q hn (fun k => by rw [Slices.IndexFunc_Lint_int_M_Method_fits_c1_l1, if_neg (by simp)]) (fun k i hi => by
  have h := hq _ (List.getElem_mem hi)
  rw [Slices.IndexFunc_Lint_int_M_Method_fits_c1_l1, if_pos (by simpa using hi), idx_nat _ hi, Option.bind_some, h, Option.bind_some, w64_succ (by omega)])]
 rcases fidx_spec q a1 0 with ⟨h1, h2⟩ | ⟨j, hj, h1, h2, h3⟩
 ·rw [h2, h1]; rfl
 ·have : a1.any q = true := List.any_eq_true.2 ⟨_, List.getElem_mem hj, h2⟩
  rw [this]; rfl
theorem Slices_ContainsFunc_Lint_int_M_Method_fits_c1_eq (a1 : (List Int)) (ax1 : Int) (q : Int → Bool) (hn : a1.length ≤ 4294967296) (hq : ∀ e ∈ a1, M.Method_fits_c1 e ax1 = some (q e)) : Slices.ContainsFunc_Lint_int_M_Method_fits_c1 a1 ax1 = some (a1.any q) := by
 unfold Slices.ContainsFunc_Lint_int_M_Method_fits_c1
 rw [Slices_IndexFunc_Lint_int_M_Method_fits_c1_eq a1 ax1 q hn hq, Option.bind_some]
 congr 1
 rw [Bool.eq_iff_iff]
 simp only [decide_eq_true_eq]
 exact fidx_nn q _ 0
theorem Slices_IndexFunc_Limpl_Method_impl_Method_M_AreMethods_c1_eq (a1 : (List (Int × (List Int) × Int × Int × Int))) (ax1 : (List Int)) (q : (Int × (List Int) × Int × Int × Int) → Bool) (hn : a1.length ≤ 4294967296) (hq : ∀ e ∈ a1, M.AreMethods_c1 e ax1 = some (q e)) : Slices.IndexFunc_Limpl_Method_impl_Method_M_AreMethods_c1 a1 ax1 = some (fidx q a1 0) := by
 unfold Slices.IndexFunc_Limpl_Method_impl_Method_M_AreMethods_c1
 rw [index_loop (Slices.IndexFunc_Limpl_Method_impl_Method_M_AreMethods_c1_l1 a1 ax1) a1 q hn (fun k => by rw [Slices.IndexFunc_Limpl_Method_impl_Method_M_AreMethods_c1_l1, if_neg (by simp)]) (fun k i hi => by
  have h := hq _ (List.getElem_mem hi)
  rw [Slices.IndexFunc_Limpl_Method_impl_Method_M_AreMethods_c1_l1, if_pos (by simpa using hi), idx_nat _ hi, Option.bind_some, h, Option.bind_some, w64_succ (by omega)])]
 rcases fidx_spec q a1 0 with ⟨h1, h2⟩ | ⟨j, hj, h1, h2, h3⟩
 ·rw [h2, h1]; rfl
 ·have : a1.any q = true := List.any_eq_true.2 ⟨_, List.getElem_mem hj, h2⟩
  rw [this]; rfl
theorem Slices_ContainsFunc_Limpl_Method_impl_Method_M_AreMethods_c1_eq (a1 : (List (Int × (List Int) × Int × Int × Int))) (ax1 : (List Int)) (q : (Int × (List Int) × Int × Int × Int) → Bool) (hn : a1.length ≤ 4294967296) (hq : ∀ e ∈ a1, M.AreMethods_c1 e ax1 = some (q e)) : Slices.ContainsFunc_Limpl_Method_impl_Method_M_AreMethods_c1 a1 ax1 = some (a1.any q) := by
 unfold Slices.ContainsFunc_Limpl_Method_impl_Method_M_AreMethods_c1
 rw [Slices_IndexFunc_Limpl_Method_impl_Method_M_AreMethods_c1_eq a1 ax1 q hn hq, Option.bind_some]
 congr 1
 rw [Bool.eq_iff_iff]
 simp only [decide_eq_true_eq]
 exact fidx_nn q _ 0
theorem Slices_IndexFunc_Limpl_Fact_impl_Fact_M_matches_c1_eq (a1 : (List (Int × (List Int)))) (ax1 : (Int × (List Int) × Int × Int × Int)) (ax2 : (Int × (List Int))) (q : (Int × (List Int)) → Bool) (hn : a1.length ≤ 4294967296) (hq : ∀ e ∈ a1, M.matches_c1 e ax1 ax2 = some (q e)) : Slices.IndexFunc_Limpl_Fact_impl_Fact_M_matches_c1 a1 ax1 ax2 = some (fidx q a1 0) := by
 unfold Slices.IndexFunc_Limpl_Fact_impl_Fact_M_matches_c1
 rw [index_loop (Slices.IndexFunc_Limpl_Fact_impl_Fact_M_matches_c1_l1 a1 ax1 ax2) a1 q hn (fun k => by rw [Slices.IndexFunc_Limpl_Fact_impl_Fact_M_matches_c1_l1, if_neg (by simp)]) (fun k i hi => by
  have h := hq _ (List.getElem_mem hi)
  rw [Slices.IndexFunc_Limpl_Fact_impl_Fact_M_matches_c1_l1, if_pos (by simpa using hi), idx_nat _ hi, Option.bind_some, h, Option.bind_some, w64_succ (by omega)])]
 rcases fidx_spec q a1 0 with ⟨h1, h2⟩ | ⟨j, hj, h1, h2, h3⟩
 ·rw [h2, h1]; rfl
 ·have : a1.any q = true := List.any_eq_true.2 ⟨_, List.getElem_mem hj, h2⟩
  rw [this]; rfl
end Go.Gx.Px
