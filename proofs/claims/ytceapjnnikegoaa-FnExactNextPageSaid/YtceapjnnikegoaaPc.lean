/- Plain laws: schemas, facts, and how they compare. Conditions: none. -/
import Derived.Test.YtceapjnnikegoaaPn
set_option linter.unusedVariables false
set_option linter.unusedSimpArgs false
namespace Go.Gx.Px
/-- a list is compared with another -/
def cmpL : List Int → List Int → Int
  | [], [] => 0
  | [], _ :: _ => -1
  | _ :: _, [] => 1
  | x :: a, y :: b => if x < y then -1 else if y < x then 1 else cmpL a b
def cmpF (a b : Int × List Int) : Int := if a.1 < b.1 then -1 else if b.1 < a.1 then 1 else cmpL a.2 b.2
theorem CompareFacts_S (a b : Int × List Int) (ha : a.2.length ≤ 4294967296) (hb : b.2.length ≤ 4294967296) : S.CompareFacts a b = some (cmpF a b) := by
  unfold S.CompareFacts
  by_cases h0 : a.1 = b.1
  · have hc : cmpF a b = cmpL a.2 b.2 := by unfold cmpF; rw [if_neg (by omega), if_neg (by omega)]
    rw [hc, if_neg (by simp [h0])]
    have key : ∀ (K i : Nat), i ≤ a.2.length → i ≤ b.2.length → a.2.length < i + K → (S.CompareFacts_l1 a b K (i : Int)).bind (fun o => match o with
        | .inl () => if (decide ((List.length a.2 : Int) < (List.length b.2 : Int))) then some (-1) else if (decide ((List.length b.2 : Int) < (List.length a.2 : Int))) then some 1 else some 0
        | .inr r => some r) = some (cmpL (a.2.drop i) (b.2.drop i)) := by
      intro K
      induction K with
      | zero => intro i h1 h2 h3; omega
      | succ K ih =>
        intro i h1 h2 h3
        rw [S.CompareFacts_l1]
        by_cases hi : i < a.2.length
        · rw [if_pos (show decide ((i : Int) < (List.length a.2 : Int)) = true by simpa using hi), Option.bind_some]
          by_cases hj : i < b.2.length
          · rw [if_pos (show decide ((i : Int) < (List.length b.2 : Int)) = true by simpa using hj)]
            simp only [Option.bind_some, idx_nat a.2 hi, idx_nat b.2 hj]
            rw [List.drop_eq_getElem_cons hi, List.drop_eq_getElem_cons hj]
            unfold cmpL
            by_cases g1 : a.2[i] < b.2[i]
            · simp [g1]
            · by_cases g2 : b.2[i] < a.2[i]
              · simp [g1, g2]
              · simp only [g1, g2, decide_false, Bool.false_eq_true, if_false]
                rw [w64_succ (by omega)]
                exact ih (i + 1) (by omega) (by omega) (by omega)
          · obtain rfl : i = b.2.length := by omega
            rw [if_neg (by simp), Option.bind_some, List.drop_length, List.drop_eq_getElem_cons hi]
            simp only
            rw [if_neg (by simp; omega), if_pos (by simpa using hi)]
            unfold cmpL; rfl
        · obtain rfl : i = a.2.length := by omega
          rw [if_neg (by simp), Option.bind_some, if_neg (by simp), Option.bind_some, List.drop_length]
          simp only
          by_cases hj : a.2.length < b.2.length
          · rw [List.drop_eq_getElem_cons hj]; unfold cmpL; simp [hj]
          · have : b.2.drop a.2.length = [] := List.drop_eq_nil_of_le (by omega)
            rw [this]; unfold cmpL; simp [hj]; omega
    have h9 := key FUEL 0 (by omega) (by omega) (by rw [FUEL_eq]; omega)
    rw [List.drop_zero, List.drop_zero] at h9
    exact h9
  · rw [if_pos (by simpa using h0)]
    unfold cmpF
    by_cases h1 : a.1 < b.1
    · simp [h1]
    · have : b.1 < a.1 := by omega
      simp [h1, this]
theorem isNaN_eq (x : Int) : Cmp.isNaN_int x = some false := by unfold Cmp.isNaN_int; simp
def cmpI (a b : Int) : Int := if a < b then -1 else if b < a then 1 else 0
theorem Compare_int_eq (a b : Int) : Cmp.Compare_int a b = some (cmpI a b) := by
  unfold Cmp.Compare_int cmpI
  rw [isNaN_eq, isNaN_eq]
  by_cases h : a < b <;> by_cases h2 : b < a <;> simp [h, h2]
theorem Compare_L_eq (a b : List Int) (ha : a.length ≤ 4294967296) (hb : b.length ≤ 4294967296) : Slices.Compare_Lint_int a b = some (cmpL a b) := by
  unfold Slices.Compare_Lint_int
  have key : ∀ (K i : Nat), i ≤ a.length → i ≤ b.length → a.length < i + K → (Slices.Compare_Lint_int_l1 a b K (i : Int)).bind (fun o => match o with
      | .inl () => if (decide ((List.length a : Int) < (List.length b : Int))) then some (-1) else some 0
      | .inr r => some r) = some (cmpL (a.drop i) (b.drop i)) := by
    intro K
    induction K with
    | zero => intro i h1 h2 h3; omega
    | succ K ih =>
      intro i h1 h2 h3
      rw [Slices.Compare_Lint_int_l1]
      by_cases hi : i < a.length
      · rw [if_pos (by simpa using hi), idx_nat a hi, Option.bind_some]
        by_cases hj : i < b.length
        · rw [if_neg (by simp; omega), idx_nat b hj, Option.bind_some, Compare_int_eq, Option.bind_some]
          rw [List.drop_eq_getElem_cons hi, List.drop_eq_getElem_cons hj]
          unfold cmpL cmpI
          by_cases g1 : a[i] < b[i]
          · simp [g1]
          · by_cases g2 : b[i] < a[i]
            · simp [g1, g2]
            · simp only [g1, g2, if_false, decide_true, Bool.not_true, Bool.false_eq_true]
              rw [w64_succ (by omega)]
              exact ih (i + 1) (by omega) (by omega) (by omega)
        · obtain rfl : i = b.length := by omega
          rw [if_pos (by simp), List.drop_length, List.drop_eq_getElem_cons hi]
          unfold cmpL; rfl
      · obtain rfl : i = a.length := by omega
        rw [if_neg (by simp), List.drop_length, Option.bind_some]
        by_cases hj : a.length < b.length
        · rw [List.drop_eq_getElem_cons hj]; unfold cmpL; simp [hj]
        · have : b.drop a.length = [] := List.drop_eq_nil_of_le (by omega)
          rw [this]; unfold cmpL; simp [hj]
  have h9 := key FUEL 0 (by omega) (by omega) (by rw [FUEL_eq]; omega)
  rw [List.drop_zero, List.drop_zero] at h9
  exact h9
theorem Or2_eq (x y : Int) : Cmp.Or_int [x, y] = some (if x = 0 then y else x) := by
  unfold Cmp.Or_int
  have e1 : Cmp.Or_int_l1 [x, y] (FUEL - 3 + 1 + 1 + 1) 0 = some (if x = 0 then (if y = 0 then .inl () else .inr y) else .inr x) := by
    rw [Cmp.Or_int_l1, if_pos (by simp), show idx [x, y] 0 = some x from rfl, Option.bind_some]
    by_cases hx : x = 0
    · subst hx
      rw [if_neg (by simp), w64_sm (by omega) (by omega), Cmp.Or_int_l1, if_pos (by simp), show idx [(0 : Int), y] (0 + 1) = some y from rfl, Option.bind_some]
      by_cases hy : y = 0
      · subst hy
        rw [if_neg (by simp), w64_sm (by omega) (by omega), Cmp.Or_int_l1, if_neg (by simp)]; simp
      · rw [if_pos (by simpa using hy)]; simp [hy]
    · rw [if_pos (by simpa using hx)]; simp [hx]
  rw [show FUEL = FUEL - 3 + 1 + 1 + 1 by rw [FUEL_eq], e1]
  by_cases hx : x = 0 <;> by_cases hy : y = 0 <;> simp [hx, hy]
theorem CompareFacts_M (a b : Int × List Int) (ha : a.2.length ≤ 4294967296) (hb : b.2.length ≤ 4294967296) : M.CompareFacts a b = some (cmpF a b) := by
  unfold M.CompareFacts
  rw [Compare_int_eq, Option.bind_some, Compare_L_eq _ _ ha hb, Option.bind_some, Or2_eq, Option.bind_some]
  unfold cmpF cmpI
  by_cases h : a.1 < b.1 <;> by_cases h2 : b.1 < a.1 <;> simp [h, h2]
/-! schemas and facts -/
def schOk (s : List Int) : Bool := s.all (fun n => inR n 1 3) && inR (s.length : Int) 1 3
theorem IsSchema_S (s : List Int) (h : s.length ≤ 4294967296) : S.IsSchema s = some (schOk s) := by
  unfold S.IsSchema schOk
  rw [all_loop (S.IsSchema_l1 s) s (fun n => inR n 1 3) false h (fun k => by rw [S.IsSchema_l1, if_neg (by simp)]) (fun k i hi => by
    rw [S.IsSchema_l1, if_pos (by simpa using hi), idx_nat s hi, Option.bind_some, inS, Option.bind_some, w64_succ (by omega)]
    cases inR s[i] 1 3 <;> rfl)]
  cases s.all (fun n => inR n 1 3)
  · rfl
  · simp [inS]
theorem IsSchema_M (s : List Int) (h : s.length ≤ 4294967296) : M.IsSchema s = some (schOk s) := by
  unfold M.IsSchema schOk
  rw [inM, Option.bind_some, Slices_ContainsFunc_Lint_int_M_IsSchema_c1_eq s (fun n => !inR n 1 3) h (fun e he => by unfold M.IsSchema_c1; rw [inM]; rfl), any_not]
  cases inR (s.length : Int) 1 3 <;> simp
def valsOk (l : List Int) : Bool := l.all fun n => inR n 0 9
theorem areValues_M (l : List Int) (h : l.length ≤ 4294967296) : M.areValues l = some (valsOk l) := by
  unfold M.areValues valsOk
  rw [Slices_ContainsFunc_Lint_int_M_areValues_c1_eq l (fun n => !inR n 0 9) h (fun e he => by unfold M.areValues_c1 M.isValue; rw [inM]; rfl), any_not]
  simp
/-- the arity of a relation -/
def arity (s : List Int) (r : Int) : Int := s.getD r.toNat 0
def relOk (s : List Int) (r : Int) : Bool := schOk s && inR r 0 ((s.length : Int) - 1)
theorem idx_arity {s : List Int} {r : Int} (h : relOk s r = true) : idx s r = some (arity s r) := by
  unfold relOk at h
  rw [Bool.and_eq_true, inR_iff] at h
  obtain ⟨n, rfl⟩ : ∃ n : Nat, r = n := ⟨r.toNat, by omega⟩
  have hn : n < s.length := by omega
  rw [idx_nat s hn]
  unfold arity
  simp [hn]
def factOk (s : List Int) (f : Int × List Int) : Bool := relOk s f.1 && decide ((f.2.length : Int) = arity s f.1) && valsOk f.2
theorem sch_len {s : List Int} (h : schOk s = true) : 1 ≤ s.length ∧ s.length ≤ 3 := by
  unfold schOk at h; rw [Bool.and_eq_true, inR_iff] at h; omega
theorem IsFact_S (s : List Int) (f : Int × List Int) (h : s.length ≤ 4294967296) (hf : f.2.length ≤ 4294967296) : S.IsFact s f = some (factOk s f) := by
  unfold S.IsFact
  rw [IsSchema_S s h, Option.bind_some, inS]
  cases h1 : schOk s
  · simp [factOk, relOk, h1]
  · have hl := sch_len h1
    rw [w64_sm (by omega) (by omega)]
    cases h2 : inR f.1 0 ((s.length : Int) - 1)
    · simp [factOk, relOk, h1, h2]
    · have hr : relOk s f.1 = true := by simp [relOk, h1, h2]
      rw [idx_arity hr]
      have hlo := all_loop (S.IsFact_l1 f) f.2 (fun n => inR n 0 9) false hf (fun k => by rw [S.IsFact_l1, if_neg (by simp)]) (fun k i hi => by
        rw [S.IsFact_l1, if_pos (by simpa using hi), idx_nat _ hi, Option.bind_some, inS, Option.bind_some, w64_succ (by omega)]
        cases inR f.2[i] 0 9 <;> rfl)
      rw [hlo]
      unfold factOk valsOk
      rw [hr]
      by_cases h3 : (f.2.length : Int) = arity s f.1
      · cases h4 : f.2.all (fun n => inR n 0 9) <;> simp [h3]
      · simp [h3]
theorem hasRel_M (s : List Int) (r : Int) (h : s.length ≤ 4294967296) : M.hasRel s r = some (relOk s r) := by
  unfold M.hasRel
  rw [IsSchema_M s h, Option.bind_some, inM]
  cases h1 : schOk s
  · simp [relOk, h1]
  · have hl := sch_len h1
    rw [w64_sm (by omega) (by omega)]
    simp [relOk, h1]
theorem IsFact_M (s : List Int) (f : Int × List Int) (h : s.length ≤ 4294967296) (hf : f.2.length ≤ 4294967296) : M.IsFact s f = some (factOk s f) := by
  unfold M.IsFact
  rw [hasRel_M s _ h, Option.bind_some]
  cases hr : relOk s f.1
  · simp [factOk, hr]
  · rw [idx_arity hr, areValues_M _ hf]
    unfold factOk
    rw [hr]
    by_cases h3 : (f.2.length : Int) = arity s f.1 <;> simp [h3]
end Go.Gx.Px
