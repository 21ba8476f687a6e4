/- Plain laws: facts that are put in. Conditions: none. -/
import Derived.Test.YtkcdlbgpodogcaaPcp
import Derived.Test.YtkcdlbgpodogcaaPone
import Derived.Test.YtkcdlbgpodogcaaPhf
set_option linter.unusedVariables false
set_option linter.unusedSimpArgs false
namespace Go.Gx.Px
def gtF (f e : Fa) : Bool := decide (0 < cmpF e f)
def addF (l : List Fa) (f : Fa) : List Fa := if hasF l f then l else l.take (l.findIdx (gtF f)) ++ [f] ++ l.drop (l.findIdx (gtF f))
theorem findIdx_le {α : Type} (q : α → Bool) (l : List α) : l.findIdx q ≤ l.length := List.findIdx_le_length
theorem fidx_find {α : Type} (q : α → Bool) : ∀ (l : List α) (i : Nat), fidx q l i = if l.any q then ((i + l.findIdx q : Nat) : Int) else -1
  | [], i => by simp [fidx]
  | a :: l, i => by
    unfold fidx
    rw [List.findIdx_cons]
    cases h : q a
    · rw [fidx_find q l (i + 1)]
      simp only [Bool.false_eq_true, if_false, List.any_cons, h, Bool.false_or]
      split
      · simp only [cond_false]; congr 1; omega
      · rfl
    · simp [h]
theorem find_none {α : Type} (q : α → Bool) (l : List α) (h : l.any q = false) : l.findIdx q = l.length := by
  rw [List.findIdx_eq_length]
  intro x hx
  cases hq : q x
  · rfl
  · have := List.any_eq_true.2 ⟨x, hx, hq⟩; rw [h] at this; cases this
theorem sm_add {l : List Fa} {f : Fa} (hl : SZ.sm l) (hf : SZ.sm f) (hn : l.length + 1 ≤ 1048576) : SZ.sm (addF l f) := by
  unfold addF
  split
  · exact hl
  · refine ⟨by have := findIdx_le (gtF f) l; simp only [List.length_append, List.length_take, List.length_drop, List.length_cons, List.length_nil]; omega, fun e he => ?_⟩
    rcases List.mem_append.1 he with he | he
    · rcases List.mem_append.1 he with he | he
      · exact hl.2 e (List.mem_of_mem_take he)
      · simp at he; subst he; exact hf
    · exact hl.2 e (List.mem_of_mem_drop he)
theorem addF_len (l : List Fa) (f : Fa) : (addF l f).length ≤ l.length + 1 := by
  unfold addF
  split
  · omega
  · have := findIdx_le (gtF f) l; simp only [List.length_append, List.length_take, List.length_drop, List.length_cons, List.length_nil]; omega
theorem added_M (l : List Fa) (f : Fa) (hl : SZ.sm l) (hf : SZ.sm f) : M.added l f = some (addF l f) := by
  have h1 := hl.1
  have h2 := hf.2.1
  unfold M.added addF
  rw [show (f.1, f.2) = f from rfl, HasFact_M l f hl hf, Option.bind_some]
  cases hasF l f
  · simp only [Bool.false_eq_true, if_false]
    rw [Slices_IndexFunc_Limpl_Fact_impl_Fact_M_added_c1_eq l f (gtF f) (by omega) (fun e he => by
      unfold M.added_c1; rw [show (e.1, e.2) = e from rfl, CompareFacts_M e f (sm_v hl he) (by omega)]; rfl), Option.bind_some, fidx_find]
    have hle := findIdx_le (gtF f) l
    have e1 : (if decide ((if l.any (gtF f) then ((0 + l.findIdx (gtF f) : Nat) : Int) else -1) < 0) = true then some (List.length l : Int) else some (if l.any (gtF f) then ((0 + l.findIdx (gtF f) : Nat) : Int) else -1)) = some ((l.findIdx (gtF f) : Nat) : Int) := by
      cases hq : l.any (gtF f)
      · rw [find_none _ _ hq]; simp
      · simp only [if_true, Nat.zero_add]; rw [if_neg (by simp)]
    rw [e1, Option.bind_some, copyFact_eq f h2, Option.bind_some]
    unfold Slices.Insert_Limpl_Fact_impl_Fact ins
    rw [if_pos ⟨by omega, by omega, rfl, by rw [LIM_eq]; omega⟩]
    simp
  · simp
theorem AddFact_S (l : List Fa) (f : Fa) (hl : SZ.sm l) (hf : SZ.sm f) : S.AddFact l f = some (addF l f) := by
  have h1 := hl.1
  have h2 := hf.2.1
  unfold S.AddFact
  rw [show (f.1, f.2) = f from rfl, HasFact_S l f hl hf, Option.bind_some]
  have hone : ∀ (i : Nat) (hi : i < l.length), S.l2One l[i].1 l[i].2 = some l[i] := fun i hi => l2One_eq _ _ (hl.2 _ (List.getElem_mem hi)).2.1
  have hc : ∀ (i : Nat) (hi : i < l.length), S.CompareFacts f l[i] = some (cmpF f l[i]) := fun i hi => CompareFacts_S f l[i] (by omega) (sm_v hl (List.getElem_mem hi))
  have hq : ∀ e : Fa, decide (cmpF f e < 0) = gtF f e := fun e => by unfold gtF; rw [cmpF_anti f e]; congr 1; exact propext ⟨fun h => by omega, fun h => by omega⟩
  unfold addF
  cases hasF l f
  · simp only [Bool.false_eq_true, if_false]
    generalize hp : l.findIdx (gtF f) = p
    have hple : p ≤ l.length := by rw [← hp]; exact findIdx_le _ _
    obtain ⟨k, s, g1, rfl⟩ := loop_inv0 (fun k (s : List Fa × Bool) i => S.AddFact_l1 l f k s.1 s.2 i) (fun i s => s = if p < i then (l.take p ++ [f] ++ (l.take i).drop p, true) else (l.take i, false)) l.length (by omega) (([] : List Fa), false) (by simp) (fun k i s hi hs => by
      subst hs
      refine ⟨_, ?_, rfl⟩
      have ht : l.take (i + 1) = l.take i ++ [l[i]] := by rw [List.take_add_one, List.getElem?_eq_getElem hi]; rfl
      by_cases c1 : p < i
      · have e1 : (l.take p ++ [f] ++ (l.take i).drop p) ++ [l[i]] = l.take p ++ [f] ++ (l.take (i + 1)).drop p := by
          rw [ht, List.drop_append_of_le_length (by rw [List.length_take]; omega), List.append_assoc]
        simp only [c1, if_true, show p < i + 1 by omega]
        rw [S.AddFact_l1, if_pos (by simpa using hi), idx_nat l hi]
        simp only [Bool.not_true, Bool.false_eq_true, if_false, Option.bind_some, hone i hi]
        rw [app_eq _ _ (by simp only [List.length_append, List.length_take, List.length_drop, List.length_cons, List.length_nil]; omega), Option.bind_some, w64_succ (by omega), show (l[i].1, l[i].2) = l[i] from rfl, e1]
      · have hgt : gtF f l[i] = decide (p = i) := by
          by_cases c2 : p = i
          · subst c2
            have := List.findIdx_getElem (xs := l) (p := gtF f) (w := by rw [hp]; exact hi)
            simp only [hp] at this
            rw [this]; simp
          · have h9 := List.not_of_lt_findIdx (xs := l) (p := gtF f) (i := i) (by omega)
            simp only [c2, decide_false]
            simpa using h9
        simp only [c1, if_false]
        rw [S.AddFact_l1, if_pos (by simpa using hi), idx_nat l hi]
        simp only [Bool.not_false, if_true, Option.bind_some, hc i hi, hq, hgt, hone i hi]
        by_cases c2 : p = i
        · subst c2
          simp only [decide_true, if_true, l2One_eq _ _ h2, Option.bind_some, show (f.1, f.2) = f from rfl, show p < p + 1 by omega]
          rw [app_eq _ _ (by simp only [List.length_take, List.length_cons, List.length_nil]; omega)]
          simp only [Option.bind_some]
          rw [app_eq _ _ (by simp only [List.length_append, List.length_take, List.length_cons, List.length_nil]; omega), Option.bind_some, w64_succ (by omega), show (l[p].1, l[p].2) = l[p] from rfl, ht, List.drop_append_of_le_length (by rw [List.length_take]; omega)]
          simp
        · simp only [c2, decide_false, Bool.false_eq_true, if_false, Option.bind_some, show ¬ p < i + 1 by omega]
          rw [app_eq _ _ (by simp only [List.length_take, List.length_cons, List.length_nil]; omega), Option.bind_some, w64_succ (by omega), show (l[i].1, l[i].2) = l[i] from rfl, ht])
    rw [g1]
    by_cases c1 : p < l.length
    · simp only [c1, if_true]
      rw [S.AddFact_l1, if_neg (by simp), Option.bind_some]
      simp
    · have : p = l.length := by omega
      subst this
      simp only [Nat.lt_irrefl, if_false]
      rw [S.AddFact_l1, if_neg (by simp), Option.bind_some]
      simp only [Bool.not_false, if_true, l2One_eq _ _ h2, Option.bind_some]
      rw [app_eq _ _ (by simp only [List.length_take, List.length_cons, List.length_nil]; omega)]
      simp
  · simp only [if_true]
    obtain ⟨k, s, g1, rfl⟩ := loop_inv0 (fun k (s : List Fa × Bool) i => S.AddFact_l1 l f k s.1 s.2 i) (fun i s => s = (l.take i, true)) l.length (by omega) (([] : List Fa), true) (by simp) (fun k i s hi hs => by
      subst hs
      refine ⟨_, ?_, rfl⟩
      show S.AddFact_l1 l f (k + 1) (l.take i) true i = S.AddFact_l1 l f k (l.take (i + 1)) true _
      rw [S.AddFact_l1, if_pos (by simpa using hi), idx_nat l hi]
      simp only [Bool.not_true, Bool.false_eq_true, if_false, Option.bind_some, hone i hi]
      rw [app_eq _ _ (by simp only [List.length_take, List.length_cons, List.length_nil]; omega), Option.bind_some, w64_succ (by omega), List.take_add_one, List.getElem?_eq_getElem hi]
      rfl)
    rw [g1]
    simp only
    rw [S.AddFact_l1, if_neg (by simp), Option.bind_some]
    simp
end Go.Gx.Px
