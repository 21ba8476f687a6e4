/- Plain laws: methods, accesses, answers. Conditions: none. -/
import Derived.Test.YtceapjnnikegoaaPd
import Derived.Test.YtceapjnnikegoaaPas
set_option linter.unusedVariables false
set_option linter.unusedSimpArgs false
namespace Go.Gx.Px
abbrev Me := Int × List Int × Int × Int × Int
def fitsOk (m : Me) (ar : Int) : Bool := ascOk m.2.1 && (m.2.1.all fun i => inR i 0 (ar - 1)) && (inR m.2.2.1 0 9 && inR m.2.2.2.1 0 99 && inR m.2.2.2.2 1 99)
def methOk (s : List Int) (m : Me) : Bool := relOk s m.1 && fitsOk m (arity s m.1)
theorem arity_r {s : List Int} {r : Int} (h : relOk s r = true) : 1 ≤ arity s r ∧ arity s r ≤ 3 := by
  have h1 := idx_arity h
  unfold relOk schOk at h
  simp only [Bool.and_eq_true, List.all_eq_true] at h
  obtain ⟨h2, h3, h4⟩ := idx_some h1
  have := h.1.1 _ (List.mem_of_getElem? h4)
  rwa [inR_iff] at this
theorem fits_M (m : Me) (ar : Int) (h : m.2.1.length ≤ 1048576) (ha : 1 ≤ ar ∧ ar ≤ 3) : M.Method_fits m ar = some (fitsOk m ar) := by
  unfold M.Method_fits fitsOk M.isCost
  rw [ascending_M _ h, Slices_ContainsFunc_Lint_int_M_Method_fits_c1_eq m.2.1 ar (fun i => !inR i 0 (ar - 1)) (by omega) (fun e he => by unfold M.Method_fits_c1; rw [inM, w64_sm (by omega) (by omega)]; rfl), inM, inM, inM, any_not]
  cases ascOk m.2.1 <;> cases m.2.1.all (fun i => inR i 0 (ar - 1)) <;> cases inR m.2.2.1 0 9 <;> cases inR m.2.2.2.1 0 99 <;> rfl
theorem IsMethod_M (s : List Int) (m : Me) (hs : SZ.sm s) (hm : SZ.sm m) : M.IsMethod s m = some (methOk s m) := by
  have h0 := hs.1
  unfold M.IsMethod methOk
  rw [hasRel_M s _ (by omega)]
  cases hr : relOk s m.1
  · rfl
  · rw [idx_arity hr, Option.bind_some]
    simp only [Option.bind_some, if_true, fits_M m _ hm.2.1.1 (arity_r hr), Bool.true_and]
theorem IsMethod_S (s : List Int) (m : Me) (hs : SZ.sm s) (hm : SZ.sm m) : S.IsMethod s m = some (methOk s m) := by
  have h0 := hs.1
  have h1 := hm.2.1.1
  unfold S.IsMethod methOk
  rw [IsSchema_S s (by omega), inS, inS, inS, inS]
  cases h2 : schOk s
  · simp [relOk, h2]
  · have hl := sch_len h2
    rw [w64_sm (by omega) (by omega)]
    cases h3 : inR m.1 0 ((s.length : Int) - 1)
    · simp [relOk, h2, h3]
    · have hr : relOk s m.1 = true := by simp [relOk, h2, h3]
      have har := arity_r hr
      have hlo := all_loopN (S.IsMethod_l1 m s) m.2.1.length (fun i => inR (nthI m.2.1 i) 0 (arity s m.1 - 1) && ascAt m.2.1 i) false (by omega) (fun k => by rw [S.IsMethod_l1, if_neg (by simp)]) (fun k i hi => by
        rw [S.IsMethod_l1, if_pos (by simpa using hi), idx_nthI _ hi, idx_arity hr, w64_succ (by omega)]
        simp only [Option.bind_some, inS, w64_sm (show -4611686018427387904 ≤ arity s m.1 - 1 by omega) (by omega)]
        unfold ascAt
        cases inR (nthI m.2.1 i) 0 (arity s m.1 - 1)
        · simp
        · by_cases h5 : 0 < i
          · rw [w64_pred h5 (by omega), idx_nthI _ (show i - 1 < m.2.1.length by omega)]
            by_cases h6 : nthI m.2.1 i ≤ nthI m.2.1 (i - 1) <;> simp [h5, h6]
          · simp [h5])
      rw [hlo, all_and]
      have e1 : (List.range m.2.1.length).all (fun i => inR (nthI m.2.1 i) 0 (arity s m.1 - 1)) = m.2.1.all (fun i => inR i 0 (arity s m.1 - 1)) := all_range m.2.1 0 (fun i => inR i 0 (arity s m.1 - 1))
      rw [e1, hr]
      unfold fitsOk ascOk
      cases inR m.2.2.1 0 9 <;> cases inR m.2.2.2.1 0 99 <;> cases inR m.2.2.2.2 1 99 <;> cases m.2.1.all (fun i => inR i 0 (arity s m.1 - 1)) <;> cases (List.range m.2.1.length).all (ascAt m.2.1) <;> rfl
def methsOk (s : List Int) (l : List Me) : Bool := schOk s && decide ((l.length : Int) ≤ 5) && l.all (methOk s)
theorem AreMethods_S (s : List Int) (l : List Me) (hs : SZ.sm s) (hl : SZ.sm l) : S.AreMethods s l = some (methsOk s l) := by
  have h0 := hs.1
  have h1 := hl.1
  unfold S.AreMethods methsOk
  rw [all_loop (S.AreMethods_l1 l s) l (methOk s) false (by omega) (fun k => by rw [S.AreMethods_l1, if_neg (by simp)]) (fun k i hi => by
    rw [S.AreMethods_l1, if_pos (by simpa using hi), idx_nat l hi, Option.bind_some, IsMethod_S s _ hs (hl.2 _ (List.getElem_mem hi)), Option.bind_some, w64_succ (by omega)]
    cases methOk s l[i] <;> rfl), IsSchema_S s (by omega)]
  cases l.all (methOk s)
  · simp
  · cases schOk s <;> simp
theorem AreMethods_M (s : List Int) (l : List Me) (hs : SZ.sm s) (hl : SZ.sm l) : M.AreMethods s l = some (methsOk s l) := by
  have h0 := hs.1
  have h1 := hl.1
  unfold M.AreMethods methsOk
  rw [IsSchema_M s (by omega), Slices_ContainsFunc_Limpl_Method_impl_Method_M_AreMethods_c1_eq l s (fun m => !methOk s m) (by omega) (fun e he => by
    have := IsMethod_M s e hs (hl.2 _ he)
    unfold M.AreMethods_c1; rw [show (e.1, e.2.1, e.2.2.1, e.2.2.2.1, e.2.2.2.2) = e from rfl, this]; rfl), any_not]
  cases schOk s <;> cases l.all (methOk s) <;> by_cases h : (l.length : Int) ≤ 5 <;> simp [h]
abbrev Ac := Int × List Int
def methAt (l : List Me) (i : Int) : Me := l.getD i.toNat (0, [], 0, 0, 0)
def accOk (s : List Int) (l : List Me) (a : Ac) : Bool := methsOk s l && inR a.1 0 ((l.length : Int) - 1) && decide ((a.2.length : Int) = ((methAt l a.1).2.1.length : Int)) && valsOk a.2
theorem meths_len {s : List Int} {l : List Me} (h : methsOk s l = true) : (l.length : Int) ≤ 5 := by
  unfold methsOk at h; simp at h; omega
theorem IsAccess_S (s : List Int) (l : List Me) (a : Ac) (hs : SZ.sm s) (hl : SZ.sm l) (ha : SZ.sm a) : S.IsAccess s l a = some (accOk s l a) := by
  have h2 := ha.2.1
  unfold S.IsAccess accOk
  rw [AreMethods_S s l hs hl, inS]
  cases h : methsOk s l
  · rfl
  · have hlen := meths_len h
    rw [w64_sm (by omega) (by omega)]
    cases h3 : inR a.1 0 ((l.length : Int) - 1)
    · rfl
    · rw [idx_in (0, [], 0, 0, 0) h3]
      have hlo := all_loop (S.IsAccess_l1 a) a.2 (fun n => inR n 0 9) false (by omega) (fun k => by rw [S.IsAccess_l1, if_neg (by simp)]) (fun k i hi => by
        rw [S.IsAccess_l1, if_pos (by simpa using hi), idx_nat _ hi, Option.bind_some, inS, Option.bind_some, w64_succ (by omega)]
        cases inR a.2[i] 0 9 <;> rfl)
      rw [hlo]
      unfold methAt valsOk
      generalize l.getD a.1.toNat (0, [], 0, 0, 0) = m
      by_cases h4 : (a.2.length : Int) = (m.2.1.length : Int)
      · cases h5 : a.2.all (fun n => inR n 0 9) <;> simp [h4]
      · simp [h4]
theorem IsAccess_M (s : List Int) (l : List Me) (a : Ac) (hs : SZ.sm s) (hl : SZ.sm l) (ha : SZ.sm a) : M.IsAccess s l a = some (accOk s l a) := by
  have h2 := ha.2.1
  unfold M.IsAccess accOk
  rw [AreMethods_M s l hs hl, inM]
  cases h : methsOk s l
  · rfl
  · have hlen := meths_len h
    rw [w64_sm (by omega) (by omega)]
    cases h3 : inR a.1 0 ((l.length : Int) - 1)
    · rfl
    · rw [idx_in (0, [], 0, 0, 0) h3, areValues_M _ (by omega)]
      unfold methAt
      generalize l.getD a.1.toNat (0, [], 0, 0, 0) = m
      by_cases h4 : (a.2.length : Int) = (m.2.1.length : Int) <;> simp [h4]
end Go.Gx.Px
