/- Plain laws: looking for an element, printed by program. Conditions: none. -/
import Derived.Test.YthidohmobbomfaaGreatPlL
set_option linter.unusedVariables false
set_option linter.unusedSimpArgs false
namespace Go.Gx.Px
open Option renaming bind_some→qb
open List renaming getElem_mem→qc
open Bool renaming eq_iff_iff→qd
theorem Slices_IndexFunc_Lint_int_M_IsSchema_c1_eq (a1:(List Int)) (q:Int→Bool) (hn:a1.length≤4294967296) (hq:∀e∈a1,M.IsSchema_c1 e=some (q e)):Slices.IndexFunc_Lint_int_M_IsSchema_c1 a1=some (fidx q a1 0):=by
 unfold Slices.IndexFunc_Lint_int_M_IsSchema_c1
 rw [index_loop (Slices.IndexFunc_Lint_int_M_IsSchema_c1_l1 a1) a1 q hn (fun k=>by rw [Slices.IndexFunc_Lint_int_M_IsSchema_c1_l1,if_neg (by simp)]) (fun k i hi=>by
  have h:=hq _ (qc hi)
  rw [Slices.IndexFunc_Lint_int_M_IsSchema_c1_l1,if_pos (by simpa using hi),idx_nat _ hi,qb,h,qb,w64_succ (by omega)])]
 rcases fidx_spec q a1 0 with ⟨h1,h2⟩ | ⟨j,hj,h1,h2,h3⟩
 ·rw [h2,h1]; rfl
 ·have:a1.any q=true:=List.any_eq_true.2 ⟨_,qc hj,h2⟩
  rw [this]; rfl
theorem Slices_ContainsFunc_Lint_int_M_IsSchema_c1_eq (a1:(List Int)) (q:Int→Bool) (hn:a1.length≤4294967296) (hq:∀e∈a1,M.IsSchema_c1 e=some (q e)):Slices.ContainsFunc_Lint_int_M_IsSchema_c1 a1=some (a1.any q):=by
 unfold Slices.ContainsFunc_Lint_int_M_IsSchema_c1
 rw [Slices_IndexFunc_Lint_int_M_IsSchema_c1_eq a1 q hn hq,qb]
 congr 1
 rw [qd]
 simp only [decide_eq_true_eq]
 exact fidx_nn q _ 0
theorem Slices_IndexFunc_Lint_int_M_Method_fits_c1_eq (a1:(List Int)) (ax1:Int) (q:Int→Bool) (hn:a1.length≤4294967296) (hq:∀e∈a1,M.Method_fits_c1 e ax1=some (q e)):Slices.IndexFunc_Lint_int_M_Method_fits_c1 a1 ax1=some (fidx q a1 0):=by
 unfold Slices.IndexFunc_Lint_int_M_Method_fits_c1
 rw [index_loop (Slices.IndexFunc_Lint_int_M_Method_fits_c1_l1 a1 ax1) a1 q hn (fun k=>by rw [Slices.IndexFunc_Lint_int_M_Method_fits_c1_l1,if_neg (by simp)]) (fun k i hi=>by
  have h:=hq _ (qc hi)
  rw [Slices.IndexFunc_Lint_int_M_Method_fits_c1_l1,if_pos (by simpa using hi),idx_nat _ hi,qb,h,qb,w64_succ (by omega)])]
 rcases fidx_spec q a1 0 with ⟨h1,h2⟩ | ⟨j,hj,h1,h2,h3⟩
 ·rw [h2,h1]; rfl
 ·have:a1.any q=true:=List.any_eq_true.2 ⟨_,qc hj,h2⟩
  rw [this]; rfl
theorem Slices_ContainsFunc_Lint_int_M_Method_fits_c1_eq (a1:(List Int)) (ax1:Int) (q:Int→Bool) (hn:a1.length≤4294967296) (hq:∀e∈a1,M.Method_fits_c1 e ax1=some (q e)):Slices.ContainsFunc_Lint_int_M_Method_fits_c1 a1 ax1=some (a1.any q):=by
 unfold Slices.ContainsFunc_Lint_int_M_Method_fits_c1
 rw [Slices_IndexFunc_Lint_int_M_Method_fits_c1_eq a1 ax1 q hn hq,qb]
 congr 1
 rw [qd]
 simp only [decide_eq_true_eq]
 exact fidx_nn q _ 0
theorem Slices_IndexFunc_Limpl_Method_impl_Method_M_AreMethods_c1_eq (a1:(List (Int × (List Int) × Int × Int × Int))) (ax1:(List Int)) (q:(Int × (List Int) × Int × Int × Int)→Bool) (hn:a1.length≤4294967296) (hq:∀e∈a1,M.AreMethods_c1 e ax1=some (q e)):Slices.IndexFunc_Limpl_Method_impl_Method_M_AreMethods_c1 a1 ax1=some (fidx q a1 0):=by
 unfold Slices.IndexFunc_Limpl_Method_impl_Method_M_AreMethods_c1
 rw [index_loop (Slices.IndexFunc_Limpl_Method_impl_Method_M_AreMethods_c1_l1 a1 ax1) a1 q hn (fun k=>by rw [Slices.IndexFunc_Limpl_Method_impl_Method_M_AreMethods_c1_l1,if_neg (by simp)]) (fun k i hi=>by
  have h:=hq _ (qc hi)
  rw [Slices.IndexFunc_Limpl_Method_impl_Method_M_AreMethods_c1_l1,if_pos (by simpa using hi),idx_nat _ hi,qb,h,qb,w64_succ (by omega)])]
 rcases fidx_spec q a1 0 with ⟨h1,h2⟩ | ⟨j,hj,h1,h2,h3⟩
 ·rw [h2,h1]; rfl
 ·have:a1.any q=true:=List.any_eq_true.2 ⟨_,qc hj,h2⟩
  rw [this]; rfl
theorem Slices_ContainsFunc_Limpl_Method_impl_Method_M_AreMethods_c1_eq (a1:(List (Int × (List Int) × Int × Int × Int))) (ax1:(List Int)) (q:(Int × (List Int) × Int × Int × Int)→Bool) (hn:a1.length≤4294967296) (hq:∀e∈a1,M.AreMethods_c1 e ax1=some (q e)):Slices.ContainsFunc_Limpl_Method_impl_Method_M_AreMethods_c1 a1 ax1=some (a1.any q):=by
 unfold Slices.ContainsFunc_Limpl_Method_impl_Method_M_AreMethods_c1
 rw [Slices_IndexFunc_Limpl_Method_impl_Method_M_AreMethods_c1_eq a1 ax1 q hn hq,qb]
 congr 1
 rw [qd]
 simp only [decide_eq_true_eq]
 exact fidx_nn q _ 0
theorem Slices_IndexFunc_Lint_int_M_areValues_c1_eq (a1:(List Int)) (q:Int→Bool) (hn:a1.length≤4294967296) (hq:∀e∈a1,M.areValues_c1 e=some (q e)):Slices.IndexFunc_Lint_int_M_areValues_c1 a1=some (fidx q a1 0):=by
 unfold Slices.IndexFunc_Lint_int_M_areValues_c1
 rw [index_loop (Slices.IndexFunc_Lint_int_M_areValues_c1_l1 a1) a1 q hn (fun k=>by rw [Slices.IndexFunc_Lint_int_M_areValues_c1_l1,if_neg (by simp)]) (fun k i hi=>by
  have h:=hq _ (qc hi)
  rw [Slices.IndexFunc_Lint_int_M_areValues_c1_l1,if_pos (by simpa using hi),idx_nat _ hi,qb,h,qb,w64_succ (by omega)])]
 rcases fidx_spec q a1 0 with ⟨h1,h2⟩ | ⟨j,hj,h1,h2,h3⟩
 ·rw [h2,h1]; rfl
 ·have:a1.any q=true:=List.any_eq_true.2 ⟨_,qc hj,h2⟩
  rw [this]; rfl
theorem Slices_ContainsFunc_Lint_int_M_areValues_c1_eq (a1:(List Int)) (q:Int→Bool) (hn:a1.length≤4294967296) (hq:∀e∈a1,M.areValues_c1 e=some (q e)):Slices.ContainsFunc_Lint_int_M_areValues_c1 a1=some (a1.any q):=by
 unfold Slices.ContainsFunc_Lint_int_M_areValues_c1
 rw [Slices_IndexFunc_Lint_int_M_areValues_c1_eq a1 q hn hq,qb]
 congr 1
 rw [qd]
 simp only [decide_eq_true_eq]
 exact fidx_nn q _ 0
theorem Slices_IndexFunc_Limpl_Fact_impl_Fact_M_matches_c1_eq (a1:(List (Int × (List Int)))) (ax1:(Int × (List Int) × Int × Int × Int)) (ax2:(Int × (List Int))) (q:(Int × (List Int))→Bool) (hn:a1.length≤4294967296) (hq:∀e∈a1,M.matches_c1 e ax1 ax2=some (q e)):Slices.IndexFunc_Limpl_Fact_impl_Fact_M_matches_c1 a1 ax1 ax2=some (fidx q a1 0):=by
 unfold Slices.IndexFunc_Limpl_Fact_impl_Fact_M_matches_c1
 rw [index_loop (Slices.IndexFunc_Limpl_Fact_impl_Fact_M_matches_c1_l1 a1 ax1 ax2) a1 q hn (fun k=>by rw [Slices.IndexFunc_Limpl_Fact_impl_Fact_M_matches_c1_l1,if_neg (by simp)]) (fun k i hi=>by
  have h:=hq _ (qc hi)
  rw [Slices.IndexFunc_Limpl_Fact_impl_Fact_M_matches_c1_l1,if_pos (by simpa using hi),idx_nat _ hi,qb,h,qb,w64_succ (by omega)])]
 rcases fidx_spec q a1 0 with ⟨h1,h2⟩ | ⟨j,hj,h1,h2,h3⟩
 ·rw [h2,h1]; rfl
 ·have:a1.any q=true:=List.any_eq_true.2 ⟨_,qc hj,h2⟩
  rw [this]; rfl
theorem Slices_IndexFunc_Limpl_Fact_impl_Fact_M_HasFact_c1_eq (a1:(List (Int × (List Int)))) (ax1:(Int × (List Int))) (q:(Int × (List Int))→Bool) (hn:a1.length≤4294967296) (hq:∀e∈a1,M.HasFact_c1 e ax1=some (q e)):Slices.IndexFunc_Limpl_Fact_impl_Fact_M_HasFact_c1 a1 ax1=some (fidx q a1 0):=by
 unfold Slices.IndexFunc_Limpl_Fact_impl_Fact_M_HasFact_c1
 rw [index_loop (Slices.IndexFunc_Limpl_Fact_impl_Fact_M_HasFact_c1_l1 a1 ax1) a1 q hn (fun k=>by rw [Slices.IndexFunc_Limpl_Fact_impl_Fact_M_HasFact_c1_l1,if_neg (by simp)]) (fun k i hi=>by
  have h:=hq _ (qc hi)
  rw [Slices.IndexFunc_Limpl_Fact_impl_Fact_M_HasFact_c1_l1,if_pos (by simpa using hi),idx_nat _ hi,qb,h,qb,w64_succ (by omega)])]
 rcases fidx_spec q a1 0 with ⟨h1,h2⟩ | ⟨j,hj,h1,h2,h3⟩
 ·rw [h2,h1]; rfl
 ·have:a1.any q=true:=List.any_eq_true.2 ⟨_,qc hj,h2⟩
  rw [this]; rfl
theorem Slices_ContainsFunc_Limpl_Fact_impl_Fact_M_HasFact_c1_eq (a1:(List (Int × (List Int)))) (ax1:(Int × (List Int))) (q:(Int × (List Int))→Bool) (hn:a1.length≤4294967296) (hq:∀e∈a1,M.HasFact_c1 e ax1=some (q e)):Slices.ContainsFunc_Limpl_Fact_impl_Fact_M_HasFact_c1 a1 ax1=some (a1.any q):=by
 unfold Slices.ContainsFunc_Limpl_Fact_impl_Fact_M_HasFact_c1
 rw [Slices_IndexFunc_Limpl_Fact_impl_Fact_M_HasFact_c1_eq a1 ax1 q hn hq,qb]
 congr 1
 rw [qd]
 simp only [decide_eq_true_eq]
 exact fidx_nn q _ 0
theorem Slices_IndexFunc_Limpl_Fact_impl_Fact_M_Disagree_c1_eq (a1:(List (Int × (List Int)))) (ax1:((Int × (List Int)) × (List (Int × (List Int))))) (ax2:(List (Int × (List Int) × Int × Int × Int))) (q:(Int × (List Int))→Bool) (hn:a1.length≤4294967296) (hq:∀e∈a1,M.Disagree_c1 e ax1 ax2=some (q e)):Slices.IndexFunc_Limpl_Fact_impl_Fact_M_Disagree_c1 a1 ax1 ax2=some (fidx q a1 0):=by
 unfold Slices.IndexFunc_Limpl_Fact_impl_Fact_M_Disagree_c1
 rw [index_loop (Slices.IndexFunc_Limpl_Fact_impl_Fact_M_Disagree_c1_l1 a1 ax1 ax2) a1 q hn (fun k=>by rw [Slices.IndexFunc_Limpl_Fact_impl_Fact_M_Disagree_c1_l1,if_neg (by simp)]) (fun k i hi=>by
  have h:=hq _ (qc hi)
  rw [Slices.IndexFunc_Limpl_Fact_impl_Fact_M_Disagree_c1_l1,if_pos (by simpa using hi),idx_nat _ hi,qb,h,qb,w64_succ (by omega)])]
 rcases fidx_spec q a1 0 with ⟨h1,h2⟩ | ⟨j,hj,h1,h2,h3⟩
 ·rw [h2,h1]; rfl
 ·have:a1.any q=true:=List.any_eq_true.2 ⟨_,qc hj,h2⟩
  rw [this]; rfl
theorem Slices_ContainsFunc_Limpl_Fact_impl_Fact_M_Disagree_c1_eq (a1:(List (Int × (List Int)))) (ax1:((Int × (List Int)) × (List (Int × (List Int))))) (ax2:(List (Int × (List Int) × Int × Int × Int))) (q:(Int × (List Int))→Bool) (hn:a1.length≤4294967296) (hq:∀e∈a1,M.Disagree_c1 e ax1 ax2=some (q e)):Slices.ContainsFunc_Limpl_Fact_impl_Fact_M_Disagree_c1 a1 ax1 ax2=some (a1.any q):=by
 unfold Slices.ContainsFunc_Limpl_Fact_impl_Fact_M_Disagree_c1
 rw [Slices_IndexFunc_Limpl_Fact_impl_Fact_M_Disagree_c1_eq a1 ax1 ax2 q hn hq,qb]
 congr 1
 rw [qd]
 simp only [decide_eq_true_eq]
 exact fidx_nn q _ 0
theorem Slices_IndexFunc_Limpl_Fact_impl_Fact_M_Disagree_c2_eq (a1:(List (Int × (List Int)))) (ax1:((Int × (List Int)) × (List (Int × (List Int))))) (ax2:(List (Int × (List Int) × Int × Int × Int))) (q:(Int × (List Int))→Bool) (hn:a1.length≤4294967296) (hq:∀e∈a1,M.Disagree_c2 e ax1 ax2=some (q e)):Slices.IndexFunc_Limpl_Fact_impl_Fact_M_Disagree_c2 a1 ax1 ax2=some (fidx q a1 0):=by
 unfold Slices.IndexFunc_Limpl_Fact_impl_Fact_M_Disagree_c2
 rw [index_loop (Slices.IndexFunc_Limpl_Fact_impl_Fact_M_Disagree_c2_l1 a1 ax1 ax2) a1 q hn (fun k=>by rw [Slices.IndexFunc_Limpl_Fact_impl_Fact_M_Disagree_c2_l1,if_neg (by simp)]) (fun k i hi=>by
  have h:=hq _ (qc hi)
  rw [Slices.IndexFunc_Limpl_Fact_impl_Fact_M_Disagree_c2_l1,if_pos (by simpa using hi),idx_nat _ hi,qb,h,qb,w64_succ (by omega)])]
 rcases fidx_spec q a1 0 with ⟨h1,h2⟩ | ⟨j,hj,h1,h2,h3⟩
 ·rw [h2,h1]; rfl
 ·have:a1.any q=true:=List.any_eq_true.2 ⟨_,qc hj,h2⟩
  rw [this]; rfl
theorem Slices_ContainsFunc_Limpl_Fact_impl_Fact_M_Disagree_c2_eq (a1:(List (Int × (List Int)))) (ax1:((Int × (List Int)) × (List (Int × (List Int))))) (ax2:(List (Int × (List Int) × Int × Int × Int))) (q:(Int × (List Int))→Bool) (hn:a1.length≤4294967296) (hq:∀e∈a1,M.Disagree_c2 e ax1 ax2=some (q e)):Slices.ContainsFunc_Limpl_Fact_impl_Fact_M_Disagree_c2 a1 ax1 ax2=some (a1.any q):=by
 unfold Slices.ContainsFunc_Limpl_Fact_impl_Fact_M_Disagree_c2
 rw [Slices_IndexFunc_Limpl_Fact_impl_Fact_M_Disagree_c2_eq a1 ax1 ax2 q hn hq,qb]
 congr 1
 rw [qd]
 simp only [decide_eq_true_eq]
 exact fidx_nn q _ 0
theorem Slices_IndexFunc_Limpl_Told_impl_Told_M_FirstConflict_c1_eq (a1:(List ((Int × (List Int)) × (List (Int × (List Int)))))) (ax1:(List Int)) (ax2:(List (Int × (List Int) × Int × Int × Int))) (ax3:((Int × (List Int)) × (List (Int × (List Int))))) (q:((Int × (List Int)) × (List (Int × (List Int))))→Bool) (hn:a1.length≤4294967296) (hq:∀e∈a1,M.FirstConflict_c1 e ax1 ax2 ax3=some (q e)):Slices.IndexFunc_Limpl_Told_impl_Told_M_FirstConflict_c1 a1 ax1 ax2 ax3=some (fidx q a1 0):=by
 unfold Slices.IndexFunc_Limpl_Told_impl_Told_M_FirstConflict_c1
 rw [index_loop (Slices.IndexFunc_Limpl_Told_impl_Told_M_FirstConflict_c1_l1 a1 ax1 ax2 ax3) a1 q hn (fun k=>by rw [Slices.IndexFunc_Limpl_Told_impl_Told_M_FirstConflict_c1_l1,if_neg (by simp)]) (fun k i hi=>by
  have h:=hq _ (qc hi)
  rw [Slices.IndexFunc_Limpl_Told_impl_Told_M_FirstConflict_c1_l1,if_pos (by simpa using hi),idx_nat _ hi,qb,h,qb,w64_succ (by omega)])]
 rcases fidx_spec q a1 0 with ⟨h1,h2⟩ | ⟨j,hj,h1,h2,h3⟩
 ·rw [h2,h1]; rfl
 ·have:a1.any q=true:=List.any_eq_true.2 ⟨_,qc hj,h2⟩
  rw [this]; rfl
theorem Slices_IndexFunc_LLint_Lint_M_hasTuple_c1_eq (a1:(List (List Int))) (ax1:(List Int)) (q:(List Int)→Bool) (hn:a1.length≤4294967296) (hq:∀e∈a1,M.hasTuple_c1 e ax1=some (q e)):Slices.IndexFunc_LLint_Lint_M_hasTuple_c1 a1 ax1=some (fidx q a1 0):=by
 unfold Slices.IndexFunc_LLint_Lint_M_hasTuple_c1
 rw [index_loop (Slices.IndexFunc_LLint_Lint_M_hasTuple_c1_l1 a1 ax1) a1 q hn (fun k=>by rw [Slices.IndexFunc_LLint_Lint_M_hasTuple_c1_l1,if_neg (by simp)]) (fun k i hi=>by
  have h:=hq _ (qc hi)
  rw [Slices.IndexFunc_LLint_Lint_M_hasTuple_c1_l1,if_pos (by simpa using hi),idx_nat _ hi,qb,h,qb,w64_succ (by omega)])]
 rcases fidx_spec q a1 0 with ⟨h1,h2⟩ | ⟨j,hj,h1,h2,h3⟩
 ·rw [h2,h1]; rfl
 ·have:a1.any q=true:=List.any_eq_true.2 ⟨_,qc hj,h2⟩
  rw [this]; rfl
theorem Slices_ContainsFunc_LLint_Lint_M_hasTuple_c1_eq (a1:(List (List Int))) (ax1:(List Int)) (q:(List Int)→Bool) (hn:a1.length≤4294967296) (hq:∀e∈a1,M.hasTuple_c1 e ax1=some (q e)):Slices.ContainsFunc_LLint_Lint_M_hasTuple_c1 a1 ax1=some (a1.any q):=by
 unfold Slices.ContainsFunc_LLint_Lint_M_hasTuple_c1
 rw [Slices_IndexFunc_LLint_Lint_M_hasTuple_c1_eq a1 ax1 q hn hq,qb]
 congr 1
 rw [qd]
 simp only [decide_eq_true_eq]
 exact fidx_nn q _ 0
theorem Slices_IndexFunc_LLint_Lint_M_addedTuple_c1_eq (a1:(List (List Int))) (ax1:(List Int)) (q:(List Int)→Bool) (hn:a1.length≤4294967296) (hq:∀e∈a1,M.addedTuple_c1 e ax1=some (q e)):Slices.IndexFunc_LLint_Lint_M_addedTuple_c1 a1 ax1=some (fidx q a1 0):=by
 unfold Slices.IndexFunc_LLint_Lint_M_addedTuple_c1
 rw [index_loop (Slices.IndexFunc_LLint_Lint_M_addedTuple_c1_l1 a1 ax1) a1 q hn (fun k=>by rw [Slices.IndexFunc_LLint_Lint_M_addedTuple_c1_l1,if_neg (by simp)]) (fun k i hi=>by
  have h:=hq _ (qc hi)
  rw [Slices.IndexFunc_LLint_Lint_M_addedTuple_c1_l1,if_pos (by simpa using hi),idx_nat _ hi,qb,h,qb,w64_succ (by omega)])]
 rcases fidx_spec q a1 0 with ⟨h1,h2⟩ | ⟨j,hj,h1,h2,h3⟩
 ·rw [h2,h1]; rfl
 ·have:a1.any q=true:=List.any_eq_true.2 ⟨_,qc hj,h2⟩
  rw [this]; rfl
theorem Slices_IndexFunc_Limpl_Fact_impl_Fact_M_added_c1_eq (a1:(List (Int × (List Int)))) (ax1:(Int × (List Int))) (q:(Int × (List Int))→Bool) (hn:a1.length≤4294967296) (hq:∀e∈a1,M.added_c1 e ax1=some (q e)):Slices.IndexFunc_Limpl_Fact_impl_Fact_M_added_c1 a1 ax1=some (fidx q a1 0):=by
 unfold Slices.IndexFunc_Limpl_Fact_impl_Fact_M_added_c1
 rw [index_loop (Slices.IndexFunc_Limpl_Fact_impl_Fact_M_added_c1_l1 a1 ax1) a1 q hn (fun k=>by rw [Slices.IndexFunc_Limpl_Fact_impl_Fact_M_added_c1_l1,if_neg (by simp)]) (fun k i hi=>by
  have h:=hq _ (qc hi)
  rw [Slices.IndexFunc_Limpl_Fact_impl_Fact_M_added_c1_l1,if_pos (by simpa using hi),idx_nat _ hi,qb,h,qb,w64_succ (by omega)])]
 rcases fidx_spec q a1 0 with ⟨h1,h2⟩ | ⟨j,hj,h1,h2,h3⟩
 ·rw [h2,h1]; rfl
 ·have:a1.any q=true:=List.any_eq_true.2 ⟨_,qc hj,h2⟩
  rw [this]; rfl
theorem Slices_IndexFunc_LLint_Lint_M_parted_c1_eq (a1:(List (List Int))) (ax1:(List ((Int × (List Int)) × (List (Int × (List Int)))))) (ax2:(Int × (List Int))) (q:(List Int)→Bool) (hn:a1.length≤4294967296) (hq:∀e∈a1,M.parted_c1 e ax1 ax2=some (q e)):Slices.IndexFunc_LLint_Lint_M_parted_c1 a1 ax1 ax2=some (fidx q a1 0):=by
 unfold Slices.IndexFunc_LLint_Lint_M_parted_c1
 rw [index_loop (Slices.IndexFunc_LLint_Lint_M_parted_c1_l1 a1 ax1 ax2) a1 q hn (fun k=>by rw [Slices.IndexFunc_LLint_Lint_M_parted_c1_l1,if_neg (by simp)]) (fun k i hi=>by
  have h:=hq _ (qc hi)
  rw [Slices.IndexFunc_LLint_Lint_M_parted_c1_l1,if_pos (by simpa using hi),idx_nat _ hi,qb,h,qb,w64_succ (by omega)])]
 rcases fidx_spec q a1 0 with ⟨h1,h2⟩ | ⟨j,hj,h1,h2,h3⟩
 ·rw [h2,h1]; rfl
 ·have:a1.any q=true:=List.any_eq_true.2 ⟨_,qc hj,h2⟩
  rw [this]; rfl
theorem Slices_ContainsFunc_LLint_Lint_M_parted_c1_eq (a1:(List (List Int))) (ax1:(List ((Int × (List Int)) × (List (Int × (List Int)))))) (ax2:(Int × (List Int))) (q:(List Int)→Bool) (hn:a1.length≤4294967296) (hq:∀e∈a1,M.parted_c1 e ax1 ax2=some (q e)):Slices.ContainsFunc_LLint_Lint_M_parted_c1 a1 ax1 ax2=some (a1.any q):=by
 unfold Slices.ContainsFunc_LLint_Lint_M_parted_c1
 rw [Slices_IndexFunc_LLint_Lint_M_parted_c1_eq a1 ax1 ax2 q hn hq,qb]
 congr 1
 rw [qd]
 simp only [decide_eq_true_eq]
 exact fidx_nn q _ 0
theorem Slices_IndexFunc_Lint_int_M_areTerms_c1_eq (a1:(List Int)) (q:Int→Bool) (hn:a1.length≤4294967296) (hq:∀e∈a1,M.areTerms_c1 e=some (q e)):Slices.IndexFunc_Lint_int_M_areTerms_c1 a1=some (fidx q a1 0):=by
 unfold Slices.IndexFunc_Lint_int_M_areTerms_c1
 rw [index_loop (Slices.IndexFunc_Lint_int_M_areTerms_c1_l1 a1) a1 q hn (fun k=>by rw [Slices.IndexFunc_Lint_int_M_areTerms_c1_l1,if_neg (by simp)]) (fun k i hi=>by
  have h:=hq _ (qc hi)
  rw [Slices.IndexFunc_Lint_int_M_areTerms_c1_l1,if_pos (by simpa using hi),idx_nat _ hi,qb,h,qb,w64_succ (by omega)])]
 rcases fidx_spec q a1 0 with ⟨h1,h2⟩ | ⟨j,hj,h1,h2,h3⟩
 ·rw [h2,h1]; rfl
 ·have:a1.any q=true:=List.any_eq_true.2 ⟨_,qc hj,h2⟩
  rw [this]; rfl
theorem Slices_ContainsFunc_Lint_int_M_areTerms_c1_eq (a1:(List Int)) (q:Int→Bool) (hn:a1.length≤4294967296) (hq:∀e∈a1,M.areTerms_c1 e=some (q e)):Slices.ContainsFunc_Lint_int_M_areTerms_c1 a1=some (a1.any q):=by
 unfold Slices.ContainsFunc_Lint_int_M_areTerms_c1
 rw [Slices_IndexFunc_Lint_int_M_areTerms_c1_eq a1 q hn hq,qb]
 congr 1
 rw [qd]
 simp only [decide_eq_true_eq]
 exact fidx_nn q _ 0
theorem Slices_IndexFunc_Lint_int_M_hasHead_c1_eq (a1:(List Int)) (ax1:(List Int)) (q:Int→Bool) (hn:a1.length≤4294967296) (hq:∀e∈a1,M.hasHead_c1 e ax1=some (q e)):Slices.IndexFunc_Lint_int_M_hasHead_c1 a1 ax1=some (fidx q a1 0):=by
 unfold Slices.IndexFunc_Lint_int_M_hasHead_c1
 rw [index_loop (Slices.IndexFunc_Lint_int_M_hasHead_c1_l1 a1 ax1) a1 q hn (fun k=>by rw [Slices.IndexFunc_Lint_int_M_hasHead_c1_l1,if_neg (by simp)]) (fun k i hi=>by
  have h:=hq _ (qc hi)
  rw [Slices.IndexFunc_Lint_int_M_hasHead_c1_l1,if_pos (by simpa using hi),idx_nat _ hi,qb,h,qb,w64_succ (by omega)])]
 rcases fidx_spec q a1 0 with ⟨h1,h2⟩ | ⟨j,hj,h1,h2,h3⟩
 ·rw [h2,h1]; rfl
 ·have:a1.any q=true:=List.any_eq_true.2 ⟨_,qc hj,h2⟩
  rw [this]; rfl
theorem Slices_ContainsFunc_Lint_int_M_hasHead_c1_eq (a1:(List Int)) (ax1:(List Int)) (q:Int→Bool) (hn:a1.length≤4294967296) (hq:∀e∈a1,M.hasHead_c1 e ax1=some (q e)):Slices.ContainsFunc_Lint_int_M_hasHead_c1 a1 ax1=some (a1.any q):=by
 unfold Slices.ContainsFunc_Lint_int_M_hasHead_c1
 rw [Slices_IndexFunc_Lint_int_M_hasHead_c1_eq a1 ax1 q hn hq,qb]
 congr 1
 rw [qd]
 simp only [decide_eq_true_eq]
 exact fidx_nn q _ 0
theorem Slices_IndexFunc_Limpl_Atom_impl_Atom_M_IsQuery_c1_eq (a1:(List (Int × (List Int)))) (ax1:(List Int)) (q:(Int × (List Int))→Bool) (hn:a1.length≤4294967296) (hq:∀e∈a1,M.IsQuery_c1 e ax1=some (q e)):Slices.IndexFunc_Limpl_Atom_impl_Atom_M_IsQuery_c1 a1 ax1=some (fidx q a1 0):=by
 unfold Slices.IndexFunc_Limpl_Atom_impl_Atom_M_IsQuery_c1
 rw [index_loop (Slices.IndexFunc_Limpl_Atom_impl_Atom_M_IsQuery_c1_l1 a1 ax1) a1 q hn (fun k=>by rw [Slices.IndexFunc_Limpl_Atom_impl_Atom_M_IsQuery_c1_l1,if_neg (by simp)]) (fun k i hi=>by
  have h:=hq _ (qc hi)
  rw [Slices.IndexFunc_Limpl_Atom_impl_Atom_M_IsQuery_c1_l1,if_pos (by simpa using hi),idx_nat _ hi,qb,h,qb,w64_succ (by omega)])]
 rcases fidx_spec q a1 0 with ⟨h1,h2⟩ | ⟨j,hj,h1,h2,h3⟩
 ·rw [h2,h1]; rfl
 ·have:a1.any q=true:=List.any_eq_true.2 ⟨_,qc hj,h2⟩
  rw [this]; rfl
theorem Slices_ContainsFunc_Limpl_Atom_impl_Atom_M_IsQuery_c1_eq (a1:(List (Int × (List Int)))) (ax1:(List Int)) (q:(Int × (List Int))→Bool) (hn:a1.length≤4294967296) (hq:∀e∈a1,M.IsQuery_c1 e ax1=some (q e)):Slices.ContainsFunc_Limpl_Atom_impl_Atom_M_IsQuery_c1 a1 ax1=some (a1.any q):=by
 unfold Slices.ContainsFunc_Limpl_Atom_impl_Atom_M_IsQuery_c1
 rw [Slices_IndexFunc_Limpl_Atom_impl_Atom_M_IsQuery_c1_eq a1 ax1 q hn hq,qb]
 congr 1
 rw [qd]
 simp only [decide_eq_true_eq]
 exact fidx_nn q _ 0
end Go.Gx.Px
