/- Plain laws: changes of a source. Conditions: none. -/
import Derived.Test.YtkcdlbgpodogcaaPdl
import Derived.Test.YtkcdlbgpodogcaaPf
import Derived.Test.YtkcdlbgpodogcaaPa
import Derived.Test.YtkcdlbgpodogcaaPs
set_option linter.unusedVariables false
set_option linter.unusedSimpArgs false
namespace Go.Gx.Px
abbrev Ch := Bool × Fa
theorem copySource_M (x : So) (h : SZ.sm x) : M.copySource x = some x := by
  unfold M.copySource; rw [copyFacts_id _ h.1]; rfl
theorem l25Copy_S (x : So) (h : SZ.sm x) : S.l25Copy x = some x := by
  unfold S.l25Copy; rw [l2Copy_id _ h.1]; rfl
def okC (s : List Int) (x : So) (c : Ch) : Bool := srcOk s x && (factOk s c.2 && (decide (x.2 < 1000) && (!decide (hasF x.1 c.2 = c.1) && !(c.1 && decide (24 ≤ (x.1.length : Int))))))
def outF (l : List Fa) (f : Fa) : List Fa := l.filter (fun e => !decide (cmpF e f = 0))
def appC (s : List Int) (x : So) (c : Ch) : So × Bool := if okC s x c then (if c.1 then ((addF x.1 c.2, x.2 + 1), true) else ((outF x.1 c.2, x.2 + 1), true)) else (x, false)
theorem src_r {s : List Int} {x : So} (h : srcOk s x = true) : 0 ≤ x.2 ∧ x.2 ≤ 1000 ∧ (x.1.length : Int) ≤ 24 := by
  unfold srcOk factsOk at h
  simp only [Bool.and_eq_true, inR_iff, decide_eq_true_eq] at h
  omega
theorem outF_len (l : List Fa) (f : Fa) : (outF l f).length ≤ l.length := List.length_filter_le _ _
theorem out_loop {β : Type} (f : Nat → List β → Int → Int → Option (List β × Int)) (n : Nat) (a : List β) (q : β → Bool) (v : Int) (hn : a.length ≤ 4294967296) (he : ∀ k x, f (k + 1) x v (a.length : Int) = some (x, v))
    (hs : ∀ k (x : List β) (i : Nat) (hi : i < a.length), x.length ≤ i → f (k + 1) x v (i : Int) = f k (if q a[i] then x ++ [a[i]] else x) v ((i + 1 : Nat) : Int)) : f FUEL [] v 0 = some (a.filter q, v) := by
  obtain ⟨k, s', h1, rfl⟩ := loop_inv0 (fun k x i => f k x v i) (fun i x => x = (a.take i).filter q) a.length hn [] (by simp) (fun k i x hi hx => ⟨_, hs k x i hi (by rw [hx]; have := List.length_filter_le q (a.take i); rw [List.length_take] at this; omega), by
    rw [hx, List.take_add_one, List.getElem?_eq_getElem hi, List.filter_append]
    simp only [Option.toList_some, List.filter_cons, List.filter_nil]
    cases q a[i] <;> simp⟩)
  rw [h1, he, List.take_length]
theorem ApplyChange_S (s : List Int) (x : So) (c : Ch) (hs : SZ.sm s) (hx : SZ.sm x) (hc : SZ.sm c) : S.ApplyChange s x c = some (appC s x c) := by
  have h0 := hs.1
  have h1 := hx.1.1
  have h2 := hc.2.2.1
  unfold S.ApplyChange appC okC
  rw [show (x.1, x.2) = x from rfl, l25Copy_S x hx, show (c.2.1, c.2.2) = c.2 from rfl, IsSource_S s x hs hx, IsFact_S s c.2 (by omega) (by omega), HasFact_S x.1 c.2 hx.1 hc.2]
  cases a1 : srcOk s x
  · rfl
  · obtain ⟨b1, b2, b3⟩ := src_r a1
    cases a2 : factOk s c.2
    · rfl
    · by_cases a3 : 1000 ≤ x.2
      · have : ¬ x.2 < 1000 := by omega
        simp [a3, this]
      · have a3' : x.2 < 1000 := by omega
        by_cases a4 : hasF x.1 c.2 = c.1
        · simp [a3, a3', a4]
        · obtain ⟨c1, c2⟩ := c
          cases c1
          · have hlo := out_loop (S.ApplyChange_l1 x (false, c2)) 0 x.1 (fun e => !decide (cmpF e c2 = 0)) (x.2 + 1) (by omega) (fun k y => by rw [S.ApplyChange_l1, if_neg (by simp)]) (fun k y i hi hy => by
              have e1 := CompareFacts_S x.1[i] c2 (sm_v hx.1 (List.getElem_mem hi)) (by simp at h2; omega)
              rw [S.ApplyChange_l1, if_pos (by simpa using hi), idx_nat _ hi, show (((false, c2) : Ch).2.1, ((false, c2) : Ch).2.2) = c2 from rfl, w64_succ (by omega)]
              simp only [Option.bind_some, e1, l2One_eq _ _ (hx.1.2 _ (List.getElem_mem hi)).2.1]
              rw [app_eq _ _ (by simp; omega)]
              by_cases a5 : cmpF x.1[i] c2 = 0 <;> simp [a5])
            rw [w64_sm (by omega) (by omega), hlo]
            simp only [Bool.not_eq_false] at a4
            simp [a3, a3', a4, outF]
          · rw [w64_sm (by omega) (by omega), AddFact_S x.1 c2 hx.1 hc.2]
            simp only [Bool.not_eq_true] at a4
            by_cases a5 : (24 : Int) ≤ (x.1.length : Int) <;> simp [a3, a3', a4, a5]
theorem ApplyChange_M (s : List Int) (x : So) (c : Ch) (hs : SZ.sm s) (hx : SZ.sm x) (hc : SZ.sm c) : M.ApplyChange s x c = some (appC s x c) := by
  have h0 := hs.1
  have h1 := hx.1.1
  have h2 := hc.2.2.1
  unfold M.ApplyChange appC okC
  have e9 := HasFact_M x.1 c.2 hx.1 hc.2
  rw [show (x.1, x.2) = x from rfl, copySource_M x hx, show (c.2.1, c.2.2) = c.2 from rfl, IsSource_M s x hs hx, IsFact_M s c.2 (by omega) (by omega), e9]
  cases a1 : srcOk s x
  · rfl
  · obtain ⟨b1, b2, b3⟩ := src_r a1
    cases a2 : factOk s c.2
    · rfl
    · by_cases a3 : x.2 = 1000
      · simp [a3]; exact Prod.ext rfl a3.symm
      · have a3' : x.2 < 1000 := by omega
        by_cases a4 : hasF x.1 c.2 = c.1
        · simp [a3, a3', a4]
        · obtain ⟨c1, c2⟩ := c
          have hq : ∀ e ∈ x.1, M.ApplyChange_c1 e (c1, c2) = some (decide (cmpF e c2 = 0)) := fun e he => by
            unfold M.ApplyChange_c1; rw [show (e.1, e.2) = e from rfl, CompareFacts_M e c2 (sm_v hx.1 he) (by simp at h2; omega)]; rfl
          have hd : Slices.DeleteFunc_Limpl_Fact_impl_Fact_M_ApplyChange_c1 x.1 (c1, c2) = some (outF x.1 c2) := by
            unfold Slices.DeleteFunc_Limpl_Fact_impl_Fact_M_ApplyChange_c1 outF
            rw [Slices_IndexFunc_Limpl_Fact_impl_Fact_M_ApplyChange_c1_eq x.1 (c1, c2) (fun e => decide (cmpF e c2 = 0)) (by omega) hq, Option.bind_some,
              delete_eq (fun e => M.ApplyChange_c1 e (c1, c2)) (fun e => decide (cmpF e c2 = 0)) x.1 hq]
          cases c1
          · simp only [Bool.not_eq_false] at a4
            have e8 : w64 (x.2 + 1) = x.2 + 1 := w64_sm (by omega) (by omega)
            simp only [show (((false, c2) : Ch).1, (((false, c2) : Ch).2.1, ((false, c2) : Ch).2.2)) = (false, c2) from rfl, hd]
            simp [a3, a3', a4, e8, hd]
          · have e7 := added_M x.1 c2 hx.1 hc.2
            simp only [Bool.not_eq_true] at a4
            have e8 : w64 (x.2 + 1) = x.2 + 1 := w64_sm (by omega) (by omega)
            simp only [show (((true, c2) : Ch).2.1, ((true, c2) : Ch).2.2) = c2 from rfl, e7]
            by_cases a5 : (24 : Int) ≤ (x.1.length : Int) <;> simp [a3, a3', a4, a5, e8, e7]
theorem appC_sm (s : List Int) (x : So) (c : Ch) (hx : SZ.sm x) (hc : SZ.sm c) : SZ.sm (appC s x c).1 := by
  unfold appC
  split
  · rename_i h
    have b : (x.1.length : Int) ≤ 24 := by
      unfold okC at h
      simp only [Bool.and_eq_true] at h
      exact (src_r h.1).2.2
    split
    · exact ⟨sm_add hx.1 hc.2 (by omega), trivial⟩
    · exact ⟨⟨by have := outF_len x.1 c.2; have := hx.1.1; simp only; omega, fun e he => hx.1.2 e (List.mem_filter.1 he).1⟩, trivial⟩
  · exact hx
theorem same_ApplyChange (s : List Int) (x : So) (c : Ch) (z1 : SZ.sz s ≤ 1048576) (z2 : SZ.sz x ≤ 1048576) (z3 : SZ.sz c ≤ 1048576) (_ : Rng.r s) (_ : Rng.r x) (_ : Rng.r c) : ∃ r, S.ApplyChange s x c = some r ∧ M.ApplyChange s x c = some r ∧ SZ.sm r :=
  ⟨_, ApplyChange_S s x c (sm_of z1) (sm_of z2) (sm_of z3), ApplyChange_M s x c (sm_of z1) (sm_of z2) (sm_of z3), appC_sm s x c (sm_of z2) (sm_of z3), trivial⟩
def appCs (s : List Int) (x : So) (l : List Ch) : So := l.foldl (fun x c => (appC s x c).1) x
theorem app_loop (s : List Int) (f : Nat → List Fa → Int → Int → Option (List Fa × Int)) (a : List Ch) (x : So) (ha : SZ.sm a) (hx : SZ.sm x) (he : ∀ k (y : So), f (k + 1) y.1 y.2 (a.length : Int) = some y)
    (hs : ∀ k (y : So) (i : Nat) (hi : i < a.length), SZ.sm y → f (k + 1) y.1 y.2 (i : Int) = f k (appC s y a[i]).1.1 (appC s y a[i]).1.2 ((i + 1 : Nat) : Int)) : f FUEL x.1 x.2 0 = some (appCs s x a) := by
  have hl := ha.1
  obtain ⟨k, s', h1, h2, h3⟩ := loop_inv0 (fun k (y : So) i => f k y.1 y.2 i) (fun i y => SZ.sm y ∧ y = appCs s x (a.take i)) a.length (by omega) x ⟨hx, rfl⟩ (fun k i y hi hy => by
    refine ⟨(appC s y a[i]).1, hs k y i hi hy.1, appC_sm s y _ hy.1 (ha.2 _ (List.getElem_mem hi)), ?_⟩
    rw [hy.2]; unfold appCs; rw [List.take_add_one, List.getElem?_eq_getElem hi, List.foldl_append]; rfl)
  rw [h1, he, h3, List.take_length]
theorem appCs_sm (s : List Int) (l : List Ch) : ∀ x : So, SZ.sm x → (∀ c ∈ l, SZ.sm c) → SZ.sm (appCs s x l) := by
  induction l with
  | nil => intro x hx _; exact hx
  | cons c l ih => intro x hx hl; exact ih _ (appC_sm s x c hx (hl c (List.mem_cons_self ..))) (fun d hd => hl d (List.mem_cons_of_mem _ hd))
theorem ApplyChanges_S (s : List Int) (x : So) (a : List Ch) (hs : SZ.sm s) (hx : SZ.sm x) (ha : SZ.sm a) : S.ApplyChanges s x a = some (appCs s x a) := by
  have hl := ha.1
  unfold S.ApplyChanges
  rw [show (x.1, x.2) = x from rfl, l25Copy_S x hx, Option.bind_some, app_loop s (S.ApplyChanges_l1 a s) a x ha hx (fun k y => by rw [S.ApplyChanges_l1, if_neg (by simp)]) (fun k y i hi hy => by
    rw [S.ApplyChanges_l1, if_pos (by simpa using hi), idx_nat _ hi, Option.bind_some, show (y.1, y.2) = y from rfl, ApplyChange_S s y _ hs hy (ha.2 _ (List.getElem_mem hi)), Option.bind_some, Option.bind_some, w64_succ (by omega)])]
  rfl
theorem ApplyChanges_M (s : List Int) (x : So) (a : List Ch) (hs : SZ.sm s) (hx : SZ.sm x) (ha : SZ.sm a) : M.ApplyChanges s x a = some (appCs s x a) := by
  have hl := ha.1
  unfold M.ApplyChanges
  rw [show (x.1, x.2) = x from rfl, copySource_M x hx, Option.bind_some, app_loop s (M.ApplyChanges_l1 a s) a x ha hx (fun k y => by rw [M.ApplyChanges_l1, if_neg (by simp)]) (fun k y i hi hy => by
    have e1 := ApplyChange_M s y a[i] hs hy (ha.2 _ (List.getElem_mem hi))
    rw [M.ApplyChanges_l1, if_pos (by simpa using hi), idx_nat _ hi, Option.bind_some, show (y.1, y.2) = y from rfl, show (a[i].1, (a[i].2.1, a[i].2.2)) = a[i] from rfl, e1, Option.bind_some, w64_succ (by omega)])]
  rfl
theorem same_ApplyChanges (s : List Int) (x : So) (a : List Ch) (z1 : SZ.sz s ≤ 1048576) (z2 : SZ.sz x ≤ 1048576) (z3 : SZ.sz a ≤ 1048576) (_ : Rng.r s) (_ : Rng.r x) (_ : Rng.r a) : ∃ r, S.ApplyChanges s x a = some r ∧ M.ApplyChanges s x a = some r ∧ SZ.sm r :=
  ⟨_, ApplyChanges_S s x a (sm_of z1) (sm_of z2) (sm_of z3), ApplyChanges_M s x a (sm_of z1) (sm_of z2) (sm_of z3), appCs_sm s a x (sm_of z2) (sm_of z3).2⟩
end Go.Gx.Px
