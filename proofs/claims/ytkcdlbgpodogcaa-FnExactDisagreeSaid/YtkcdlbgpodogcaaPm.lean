/- Plain laws: facts that fit an access; answers that fit themselves. Conditions: none. -/
import Derived.Test.YtkcdlbgpodogcaaPcp
import Derived.Test.YtkcdlbgpodogcaaPdl
import Derived.Test.YtkcdlbgpodogcaaPe
set_option linter.unusedVariables false
set_option linter.unusedSimpArgs false
namespace Go.Gx.Px
def fitsF (m : Me) (v : List Int) (f : Fa) : Bool := decide (f.1 = m.1) && (List.range m.2.1.length).all fun i => decide (nthI f.2 (nthI m.2.1 i).toNat = nthI v i)
/-- what is looked at is there -/
def Fit (m : Me) (v : List Int) (f : Fa) : Prop := m.2.1.length = v.length ∧ v.length ≤ 1048576 ∧ (f.1 = m.1 → ∀ i, i < m.2.1.length → 0 ≤ nthI m.2.1 i ∧ nthI m.2.1 i < (f.2.length : Int))
theorem idx_pos (l : List Int) {x : Int} (h : 0 ≤ x) (h2 : x < (l.length : Int)) : idx l x = some (nthI l x.toNat) := by
  obtain ⟨n, rfl⟩ : ∃ n : Nat, x = n := ⟨x.toNat, by omega⟩
  rw [idx_nthI l (by omega)]; simp
theorem l5Fits_S (m : Me) (v : List Int) (f : Fa) (h : Fit m v f) : S.l5Fits m v f = some (fitsF m v f) := by
  obtain ⟨h1, h2, h3⟩ := h
  unfold S.l5Fits fitsF
  by_cases hr : f.1 = m.1
  · rw [if_neg (by simp [hr]), all_loopN (S.l5Fits_l1 m v f) m.2.1.length (fun i => decide (nthI f.2 (nthI m.2.1 i).toNat = nthI v i)) false (by omega) (fun k => by rw [S.l5Fits_l1, if_neg (by simp)]) (fun k i hi => by
      obtain ⟨g1, g2⟩ := h3 hr i hi
      rw [S.l5Fits_l1, if_pos (by simpa using hi), idx_nthI v (by omega), Option.bind_some, idx_nthI _ hi, Option.bind_some, idx_pos _ g1 g2, Option.bind_some, w64_succ (by omega)]
      by_cases h9 : nthI f.2 (nthI m.2.1 i).toNat = nthI v i <;> simp [h9])]
    simp only [hr, decide_true, Bool.true_and]
    cases (List.range m.2.1.length).all fun i => decide (nthI f.2 (nthI m.2.1 i).toNat = nthI v i) <;> rfl
  · rw [if_pos (by simp [hr])]; simp [hr]
theorem matches_c1_M (m : Me) (a : Ac) (f : Fa) (h : Fit m a.2 f) : M.matches_c1 f m a = some (!fitsF m a.2 f) := by
  obtain ⟨h1, h2, h3⟩ := h
  unfold M.matches_c1 fitsF
  by_cases hr : f.1 = m.1
  · rw [if_neg (by simp [hr]), all_loopN (M.matches_c1_l1 m f a) m.2.1.length (fun i => decide (nthI f.2 (nthI m.2.1 i).toNat = nthI a.2 i)) true (by omega) (fun k => by rw [M.matches_c1_l1, if_neg (by simp)]) (fun k i hi => by
      obtain ⟨g1, g2⟩ := h3 hr i hi
      rw [M.matches_c1_l1, if_pos (by simpa using hi), idx_nthI _ hi, Option.bind_some, idx_pos _ g1 g2, Option.bind_some, idx_nthI a.2 (by omega), Option.bind_some, w64_succ (by omega)]
      by_cases h9 : nthI f.2 (nthI m.2.1 i).toNat = nthI a.2 i <;> simp [h9])]
    simp only [hr, decide_true, Bool.true_and]
    cases (List.range m.2.1.length).all fun i => decide (nthI f.2 (nthI m.2.1 i).toNat = nthI a.2 i) <;> rfl
  · rw [if_pos (by simp [hr])]; simp [hr]
theorem matches_M (l : List Me) (fs : List Fa) (a : Ac) (hf : SZ.sm fs) (hr : inR a.1 0 ((l.length : Int) - 1) = true) (h : ∀ f ∈ fs, Fit (methAt l a.1) a.2 f) : M.matches l fs a = some (fs.filter (fitsF (methAt l a.1) a.2)) := by
  have h0 := hf.1
  unfold M.matches
  rw [idx_in (0, [], 0, 0, 0) hr, copyFacts_id fs hf]
  simp only [Option.bind_some]
  rw [show l.getD a.1.toNat (0, [], 0, 0, 0) = methAt l a.1 from rfl]
  generalize methAt l a.1 = m at h
  unfold Slices.DeleteFunc_Limpl_Fact_impl_Fact_M_matches_c1
  rw [show (m.1, m.2.1, m.2.2.1, m.2.2.2.1, m.2.2.2.2) = m from rfl, show (a.1, a.2) = a from rfl]
  rw [Slices_IndexFunc_Limpl_Fact_impl_Fact_M_matches_c1_eq fs m a (fun f => !fitsF m a.2 f) (by omega) (fun e he => matches_c1_M m a e (h e he)), Option.bind_some,
    delete_eq (fun e => M.matches_c1 e m a) (fun f => !fitsF m a.2 f) fs (fun e he => matches_c1_M m a e (h e he)), Option.bind_some]
  simp
theorem acc_meth {s : List Int} {l : List Me} {a : Ac} (h : accOk s l a = true) : methsOk s l = true ∧ inR a.1 0 ((l.length : Int) - 1) = true ∧ methAt l a.1 ∈ l ∧ methOk s (methAt l a.1) = true ∧ a.2.length = (methAt l a.1).2.1.length := by
  unfold accOk at h
  simp only [Bool.and_eq_true, decide_eq_true_eq] at h
  obtain ⟨⟨⟨h1, h2⟩, h3⟩, h4⟩ := h
  have hm : methAt l a.1 ∈ l := by
    have := h2
    rw [inR_iff] at this
    unfold methAt
    have hn : a.1.toNat < l.length := by omega
    simp [hn]
  refine ⟨h1, h2, hm, ?_, by omega⟩
  unfold methsOk at h1
  simp only [Bool.and_eq_true, List.all_eq_true] at h1
  exact h1.2 _ hm
theorem facts_all {s : List Int} {l : List Fa} (h : factsOk s l = true) : ∀ f ∈ l, factOk s f = true := by
  unfold factsOk at h
  simp only [Bool.and_eq_true, List.all_eq_true, List.mem_range] at h
  intro f hf
  obtain ⟨i, hi, rfl⟩ := List.getElem_of_mem hf
  have := h.1 i hi
  unfold factAt nthF at this
  simp only [Bool.and_eq_true] at this
  simpa [hi] using this.1
theorem fit_of {s : List Int} {l : List Me} {a : Ac} {f : Fa} (ha : accOk s l a = true) (hf : factOk s f = true) (hz : a.2.length ≤ 1048576) : Fit (methAt l a.1) a.2 f := by
  obtain ⟨h1, h2, h3, h4, h5⟩ := acc_meth ha
  generalize methAt l a.1 = m at h4 h5
  refine ⟨h5.symm, hz, fun hr i hi => ?_⟩
  unfold methOk fitsOk at h4
  simp only [Bool.and_eq_true, List.all_eq_true] at h4
  have h6 := h4.2.1.2 (nthI m.2.1 i) (by unfold nthI; simp [hi])
  unfold factOk at hf
  simp only [Bool.and_eq_true, decide_eq_true_eq] at hf
  rw [inR_iff] at h6
  rw [hr] at hf
  omega
def capOk (m : Me) (l : List Fa) : Bool := decide (m.2.2.1 = 0) || decide ((l.length : Int) ≤ m.2.2.1)
def selfOk (s : List Int) (l : List Me) (t : To) : Bool := toldOk s l t && (t.2.all (fitsF (methAt l t.1.1) t.1.2) && capOk (methAt l t.1.1) t.2)
theorem told_of {s : List Int} {l : List Me} {t : To} (h : toldOk s l t = true) : accOk s l t.1 = true ∧ factsOk s t.2 = true := by
  unfold toldOk at h; simpa using h
theorem FitsSelf_S (s : List Int) (l : List Me) (t : To) (hs : SZ.sm s) (hl : SZ.sm l) (ht : SZ.sm t) : S.FitsSelf s l t = some (selfOk s l t) := by
  unfold S.FitsSelf selfOk
  rw [show ((t.1.1, t.1.2), t.2) = t from rfl, IsTold_S s l t hs hl ht, Option.bind_some]
  cases h : toldOk s l t
  · rfl
  · obtain ⟨h1, h2⟩ := told_of h
    obtain ⟨-, g2, -, -, -⟩ := acc_meth h1
    have h3 := facts_all h2
    have hz := ht.1.2.1
    have hn := ht.2.1
    rw [idx_in (0, [], 0, 0, 0) g2, Option.bind_some, show l.getD t.1.1.toNat (0, [], 0, 0, 0) = methAt l t.1.1 from rfl]
    have h4 : ∀ f ∈ t.2, Fit (methAt l t.1.1) t.1.2 f := fun f hf => fit_of h1 (h3 f hf) hz
    generalize methAt l t.1.1 = m at h4
    rw [all_loop (S.FitsSelf_l1 t m) t.2 (fitsF m t.1.2) false (by omega) (fun k => by rw [S.FitsSelf_l1, if_neg (by simp)]) (fun k i hi => by
      have := l5Fits_S m t.1.2 t.2[i] (h4 _ (List.getElem_mem hi))
      rw [S.FitsSelf_l1, if_pos (by simpa using hi), idx_nat _ hi, Option.bind_some, show (m.1, m.2.1, m.2.2.1, m.2.2.2.1, m.2.2.2.2) = m from rfl, this, Option.bind_some, w64_succ (by omega)]
      cases fitsF m t.1.2 t.2[i] <;> rfl)]
    unfold capOk
    cases t.2.all (fitsF m t.1.2)
    · rfl
    · by_cases h7 : m.2.2.1 = 0 <;> simp [h7]
theorem FitsSelf_M (s : List Int) (l : List Me) (t : To) (hs : SZ.sm s) (hl : SZ.sm l) (ht : SZ.sm t) : M.FitsSelf s l t = some (selfOk s l t) := by
  unfold M.FitsSelf selfOk
  rw [show ((t.1.1, t.1.2), t.2) = t from rfl, show (t.1.1, t.1.2) = t.1 from rfl, IsTold_M s l t hs hl ht, Option.bind_some]
  cases h : toldOk s l t
  · rfl
  · obtain ⟨h1, h2⟩ := told_of h
    obtain ⟨-, g2, -, -, -⟩ := acc_meth h1
    have h3 := facts_all h2
    have hz := ht.1.2.1
    have hm := matches_M l t.2 t.1 ht.2 g2 (fun f hf => fit_of h1 (h3 f hf) hz)
    rw [idx_in (0, [], 0, 0, 0) g2, hm]
    simp only [Bool.not_true, Bool.false_eq_true, if_false, Option.bind_some]
    rw [show l.getD t.1.1.toNat (0, [], 0, 0, 0) = methAt l t.1.1 from rfl]
    generalize methAt l t.1.1 = m
    unfold capOk
    by_cases h8 : t.2.all (fitsF m t.1.2) = true
    · have : t.2.filter (fitsF m t.1.2) = t.2 := by rw [List.filter_eq_self]; simpa using h8
      rw [this, h8]
      by_cases h7 : m.2.2.1 = 0 <;> simp [h7]
    · have : ¬ (t.2.filter (fitsF m t.1.2)).length = t.2.length := by
        rw [List.length_filter_eq_length_iff]; simpa using h8
      rw [if_neg (by simp; omega)]
      rw [Bool.not_eq_true] at h8
      rw [h8]; rfl
theorem same_FitsSelf (s : List Int) (l : List Me) (t : To) (z1 : SZ.sz s ≤ 1048576) (z2 : SZ.sz l ≤ 1048576) (z3 : SZ.sz t ≤ 1048576) (_ : Rng.r s) (_ : Rng.r l) (_ : Rng.r t) : ∃ r, S.FitsSelf s l t = some r ∧ M.FitsSelf s l t = some r ∧ SZ.sm r :=
  ⟨_, FitsSelf_S s l t (sm_of z1) (sm_of z2) (sm_of z3), FitsSelf_M s l t (sm_of z1) (sm_of z2) (sm_of z3), trivial⟩
end Go.Gx.Px
