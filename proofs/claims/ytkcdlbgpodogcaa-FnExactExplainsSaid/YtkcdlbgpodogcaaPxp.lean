/- Plain laws: facts that explain answers. Conditions: none. -/
import Derived.Test.YtkcdlbgpodogcaaPm
import Derived.Test.YtkcdlbgpodogcaaPhf
import Derived.Test.YtkcdlbgpodogcaaPone
set_option linter.unusedVariables false
set_option linter.unusedSimpArgs false
namespace Go.Gx.Px
def ascFs (s : List Int) (l : List Fa) : Bool := (List.range l.length).all (factAt s l)
theorem l15Facts_S (s : List Int) (l : List Fa) (hs : SZ.sm s) (hl : SZ.sm l) : S.l15Facts s l = some (ascFs s l && schOk s) := by
  obtain ⟨h1, h2⟩ := hl
  have h0 := hs.1
  have h3 : ∀ i, i < l.length → (nthF l i).2.length ≤ 4294967296 := fun i hi => by have := (h2 _ (nthF_mem hi)).2.1; omega
  unfold S.l15Facts
  rw [all_loopN (S.l15Facts_l1 l s) l.length (factAt s l) false (by omega) (fun k => by rw [S.l15Facts_l1, if_neg (by simp)]) (fun k i hi => by
    rw [S.l15Facts_l1, if_pos (by simpa using hi), idx_nthF l hi, Option.bind_some, IsFact_S s _ (by omega) (h3 i hi), Option.bind_some, w64_succ (by omega)]
    unfold factAt
    cases h4 : factOk s (nthF l i)
    · simp
    · by_cases h5 : 0 < i
      · rw [w64_pred h5 (by omega), idx_nthF l (show i - 1 < l.length by omega)]
        simp only [Option.bind_some, CompareFacts_S _ _ (h3 (i - 1) (by omega)) (h3 i hi)]
        by_cases h6 : 0 ≤ cmpF (nthF l (i - 1)) (nthF l i) <;> simp [h5, h6]
      · simp [h5]), IsSchema_S s (by omega)]
  unfold ascFs
  cases (List.range l.length).all (factAt s l)
  · rfl
  · cases schOk s <;> simp
theorem areAscending_M (s : List Int) (l : List Fa) (hs : SZ.sm s) (hl : SZ.sm l) : M.areAscending s l = some (ascFs s l) := by
  obtain ⟨h1, h2⟩ := hl
  have h0 := hs.1
  have h3 : ∀ i, i < l.length → (nthF l i).2.length ≤ 4294967296 := fun i hi => by have := (h2 _ (nthF_mem hi)).2.1; omega
  unfold M.areAscending
  rw [all_loopN (M.areAscending_l1 l s) l.length (factAt s l) false (by omega) (fun k => by rw [M.areAscending_l1, if_neg (by simp)]) (fun k i hi => by
    rw [M.areAscending_l1, if_pos (by simpa using hi), idx_nthF l hi, Option.bind_some, show ((nthF l i).1, (nthF l i).2) = nthF l i from rfl, IsFact_M s _ (by omega) (h3 i hi), Option.bind_some, w64_succ (by omega)]
    unfold factAt
    cases h4 : factOk s (nthF l i)
    · simp
    · by_cases h5 : 0 < i
      · rw [w64_pred h5 (by omega), idx_nthF l (show i - 1 < l.length by omega)]
        simp only [Option.bind_some, CompareFacts_M _ _ (h3 (i - 1) (by omega)) (h3 i hi)]
        by_cases h6 : 0 ≤ cmpF (nthF l (i - 1)) (nthF l i) <;> simp [h5, h6]
      · simp [h5])]
  unfold ascFs
  cases (List.range l.length).all (factAt s l) <;> rfl
theorem asc_all {s : List Int} {l : List Fa} (h : ascFs s l = true) : ∀ f ∈ l, factOk s f = true := by
  unfold ascFs at h
  simp only [List.all_eq_true, List.mem_range] at h
  intro f hf
  obtain ⟨i, hi, rfl⟩ := List.getElem_of_mem hf
  have := h i hi
  unfold factAt nthF at this
  simp only [Bool.and_eq_true] at this
  simpa [hi] using this.1
theorem flat_filter {α : Type} (q : α → Bool) : ∀ l : List α, l.flatMap (fun e => if q e then [e] else []) = l.filter q
  | [] => rfl
  | a :: l => by
    rw [List.flatMap_cons, flat_filter q l, List.filter_cons]
    cases q a <;> rfl
theorem filter_flat_len {α : Type} (q : α → Bool) (l : List α) (i : Nat) : ((l.take i).flatMap (fun e => if q e then [e] else [])).length ≤ l.length := by
  rw [flat_filter]
  have := List.length_filter_le q (l.take i)
  rw [List.length_take] at this; omega
theorem l5Matches_S (m : Me) (v : List Int) (l : List Fa) (hl : SZ.sm l) (h : ∀ f ∈ l, Fit m v f) : S.l5Matches m v l = some (l.filter (fitsF m v)) := by
  have hn := hl.1
  unfold S.l5Matches
  rw [flat_loop (S.l5Matches_l1 l m v) l (fun e => if fitsF m v e then [e] else []) (by omega) (fun k x => by rw [S.l5Matches_l1, if_neg (by simp)]) (fun k x i hi hx => by
    have e1 := l5Fits_S m v l[i] (h _ (List.getElem_mem hi))
    have hlen := filter_flat_len (fitsF m v) l i
    rw [← hx] at hlen
    rw [S.l5Matches_l1, if_pos (by simpa using hi), idx_nat _ hi, show (m.1, m.2.1, m.2.2.1, m.2.2.2.1, m.2.2.2.2) = m from rfl, w64_succ (by omega)]
    simp only [Option.bind_some, e1]
    cases fitsF m v l[i]
    · simp
    · simp only [if_true, l2One_eq _ _ (hl.2 _ (List.getElem_mem hi)).2.1, Option.bind_some]
      rw [app_eq _ _ (by simp; omega)]
      rfl), flat_filter]
  rfl
def holdN (m : Me) (n : Nat) : Int := if 0 < m.2.2.1 then (if m.2.2.1 < (n : Int) then m.2.2.1 else (n : Int)) else (n : Int)
def truF (l : List Me) (fs : List Fa) (t : To) : Bool := decide ((t.2.length : Int) = holdN (methAt l t.1.1) (fs.filter (fitsF (methAt l t.1.1) t.1.2)).length) && t.2.all (hasF (fs.filter (fitsF (methAt l t.1.1) t.1.2)))
def explF (s : List Int) (l : List Me) (fs : List Fa) (a : List To) : Bool := methsOk s l && ascFs s fs && a.all (fun t => selfOk s l t && truF l fs t)
theorem sm_filter {α : Type} [SZ α] {l : List α} (h : SZ.sm l) (q : α → Bool) : SZ.sm (l.filter q) :=
  ⟨by have := h.1; have := List.length_filter_le q l; omega, fun e he => h.2 e ((List.mem_filter.1 he).1)⟩
theorem Explains_S (s : List Int) (l : List Me) (fs : List Fa) (a : List To) (hs : SZ.sm s) (hl : SZ.sm l) (hf : SZ.sm fs) (ha : SZ.sm a) : S.Explains s l fs a = some (explF s l fs a) := by
  have hn := ha.1
  unfold S.Explains explF
  rw [AreMethods_S s l hs hl, l15Facts_S s fs hs hf]
  cases h1 : methsOk s l
  · rfl
  · have hsch : schOk s = true := by unfold methsOk at h1; simp only [Bool.and_eq_true] at h1; exact h1.1.1
    rw [hsch]
    cases h2 : ascFs s fs
    · rfl
    · have h3 := asc_all h2
      rw [all_loop (S.Explains_l1 a s l fs) a (fun t => selfOk s l t && truF l fs t) false (by omega) (fun k => by rw [S.Explains_l1, if_neg (by simp)]) (fun k i hi => by
        have hm : a[i] ∈ a := List.getElem_mem hi
        have hsm := ha.2 _ hm
        rw [S.Explains_l1, if_pos (by simpa using hi), idx_nat _ hi]
        simp only [Option.bind_some]
        rw [FitsSelf_S s l _ hs hl hsm, w64_succ (by omega)]
        generalize ht : a[i] = t at hsm
        cases h4 : selfOk s l t
        · rfl
        · have h5 : accOk s l t.1 = true := by
            unfold selfOk at h4; rw [Bool.and_eq_true] at h4; exact (told_of h4.1).1
          obtain ⟨-, g2, -, -, -⟩ := acc_meth h5
          have e1 := l5Matches_S (methAt l t.1.1) t.1.2 fs hf (fun f hf => fit_of h5 (h3 f hf) hsm.1.2.1)
          unfold truF
          rw [idx_in (0, [], 0, 0, 0) g2]
          simp only [Option.bind_some]
          rw [show l.getD t.1.1.toNat (0, [], 0, 0, 0) = methAt l t.1.1 from rfl]
          generalize methAt l t.1.1 = m at e1
          rw [show (m.1, m.2.1, m.2.2.1, m.2.2.2.1, m.2.2.2.2) = m from rfl, e1]
          simp only [Option.bind_some, Bool.not_true, Bool.false_eq_true, if_false, Bool.true_and]
          have hg := sm_filter hf (fitsF m t.1.2)
          generalize fs.filter (fitsF m t.1.2) = g at hg
          have ec : (if decide (0 < m.2.2.1) = true then some (if m.2.2.1 < (List.length g : Int) then m.2.2.1 else (List.length g : Int)) else some (List.length g : Int)) = some (holdN m g.length) := by
            unfold holdN
            by_cases h7 : 0 < m.2.2.1 <;> simp [h7]
          rw [ec, Option.bind_some]
          have hlo := all_loop (S.Explains_l2 a (i : Int) g) t.2 (hasF g) false (by have := hsm.2.1; omega) (fun k => by rw [S.Explains_l2, idx_nat _ hi, Option.bind_some, ht, if_neg (by simp)]) (fun k j hj => by
            have e2 := HasFact_S g t.2[j] hg (hsm.2.2 _ (List.getElem_mem hj))
            rw [S.Explains_l2, idx_nat _ hi, Option.bind_some, ht, if_pos (by simpa using hj), Option.bind_some, idx_nat _ hj, Option.bind_some, e2, Option.bind_some, w64_succ (by have := hsm.2.1; omega)]
            cases hasF g t.2[j] <;> rfl)
          rw [hlo]
          by_cases h8 : (t.2.length : Int) = holdN m g.length
          · rw [if_neg (by simp [h8])]
            cases h9 : t.2.all (hasF g) <;> simp [h8]
          · rw [if_pos (by simp [h8])]; simp [h8])]
      cases a.all (fun t => selfOk s l t && truF l fs t) <;> rfl
theorem isTrue_M (s : List Int) (l : List Me) (fs : List Fa) (t : To) (hf : SZ.sm fs) (ht : SZ.sm t) (h2 : ascFs s fs = true) (h4 : selfOk s l t = true) : M.Told_isTrue t l fs = some (truF l fs t) := by
  have h3 := asc_all h2
  have h5 : accOk s l t.1 = true := by
    unfold selfOk at h4; rw [Bool.and_eq_true] at h4; exact (told_of h4.1).1
  obtain ⟨-, g2, -, -, -⟩ := acc_meth h5
  have hm := matches_M l fs t.1 hf g2 (fun f hf => fit_of h5 (h3 f hf) ht.1.2.1)
  have hn := ht.2.1
  unfold M.Told_isTrue truF
  rw [show (t.1.1, t.1.2) = t.1 from rfl, hm, Option.bind_some, idx_in (0, [], 0, 0, 0) g2, Option.bind_some, show l.getD t.1.1.toNat (0, [], 0, 0, 0) = methAt l t.1.1 from rfl]
  have hg := sm_filter hf (fitsF (methAt l t.1.1) t.1.2)
  generalize fs.filter (fitsF (methAt l t.1.1) t.1.2) = g at hg
  generalize methAt l t.1.1 = m
  have ec : (if decide (0 < m.2.2.1) = true then some (if m.2.2.1 < (List.length g : Int) then m.2.2.1 else (List.length g : Int)) else some (List.length g : Int)) = some (holdN m g.length) := by
    unfold holdN
    by_cases h7 : 0 < m.2.2.1 <;> simp [h7]
  rw [ec, Option.bind_some, Slices_ContainsFunc_Limpl_Fact_impl_Fact_M_Told_isTrue_c1_eq t.2 g (fun f => !hasF g f) (by omega) (fun e he => by
    have := HasFact_M g e hg (ht.2.2 e he)
    unfold M.Told_isTrue_c1; rw [show (e.1, e.2) = e from rfl, this]; rfl), any_not]
  by_cases h8 : (t.2.length : Int) = holdN m g.length <;> simp [h8]
theorem Explains_M (s : List Int) (l : List Me) (fs : List Fa) (a : List To) (hs : SZ.sm s) (hl : SZ.sm l) (hf : SZ.sm fs) (ha : SZ.sm a) : M.Explains s l fs a = some (explF s l fs a) := by
  have hn := ha.1
  unfold M.Explains explF
  rw [AreMethods_M s l hs hl, areAscending_M s fs hs hf]
  cases h1 : methsOk s l
  · rfl
  · cases h2 : ascFs s fs
    · rfl
    · rw [Slices_ContainsFunc_Limpl_Told_impl_Told_M_Explains_c1_eq a s l fs (fun t => !(selfOk s l t && truF l fs t)) (by omega) (fun t he => by
        have hsm := ha.2 t he
        unfold M.Explains_c1
        rw [show ((t.1.1, t.1.2), t.2) = t from rfl, FitsSelf_M s l t hs hl hsm]
        cases h4 : selfOk s l t
        · rfl
        · rw [isTrue_M s l fs t hf hsm h2 h4]; rfl), any_not]
      simp
theorem same_Explains (s : List Int) (l : List Me) (fs : List Fa) (a : List To) (z1 : SZ.sz s ≤ 1048576) (z2 : SZ.sz l ≤ 1048576) (z3 : SZ.sz fs ≤ 1048576) (z4 : SZ.sz a ≤ 1048576) (_ : Rng.r s) (_ : Rng.r l) (_ : Rng.r fs) (_ : Rng.r a) :
    ∃ r, S.Explains s l fs a = some r ∧ M.Explains s l fs a = some r ∧ SZ.sm r :=
  ⟨_, Explains_S s l fs a (sm_of z1) (sm_of z2) (sm_of z3) (sm_of z4), Explains_M s l fs a (sm_of z1) (sm_of z2) (sm_of z3) (sm_of z4), trivial⟩
end Go.Gx.Px
