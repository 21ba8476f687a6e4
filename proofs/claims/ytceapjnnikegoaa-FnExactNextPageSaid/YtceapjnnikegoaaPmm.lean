/- Plain laws: facts that fit an access. Conditions: none. -/
import Derived.Test.YtceapjnnikegoaaPcp
import Derived.Test.YtceapjnnikegoaaPdl
import Derived.Test.YtceapjnnikegoaaPe
set_option linter.unusedVariables false
set_option linter.unusedSimpArgs false
namespace Go.Gx.Px
def fitsF (m : Me) (v : List Int) (f : Fa) : Bool := decide (f.1 = m.1) && (List.range m.2.1.length).all fun i => decide (nthI f.2 (nthI m.2.1 i).toNat = nthI v i)
/-- what is looked at is there -/
def Fit (m : Me) (v : List Int) (f : Fa) : Prop := m.2.1.length = v.length ∧ v.length ≤ 1048576 ∧ (f.1 = m.1 → ∀ i, i < m.2.1.length → 0 ≤ nthI m.2.1 i ∧ nthI m.2.1 i < (f.2.length : Int))
theorem idx_pos (l : List Int) {x : Int} (h : 0 ≤ x) (h2 : x < (l.length : Int)) : idx l x = some (nthI l x.toNat) := by
  obtain ⟨n, rfl⟩ : ∃ n : Nat, x = n := ⟨x.toNat, by omega⟩
  rw [idx_nthI l (by omega)]; simp
theorem l5Fits_S (m : Me) (v : List Int) (f : Fa) (h : Fit m v f) : S.l5Fits m v f = some (fitsF m v f) := by
  obtain ⟨h1, h2, h3⟩ := h
  unfold S.l5Fits fitsF
  by_cases hr : f.1 = m.1
  · rw [if_neg (by simp [hr]), all_loopN (S.l5Fits_l1 m v f) m.2.1.length (fun i => decide (nthI f.2 (nthI m.2.1 i).toNat = nthI v i)) false (by omega) (fun k => by rw [S.l5Fits_l1, if_neg (by simp)]) (fun k i hi => by
      obtain ⟨g1, g2⟩ := h3 hr i hi
      rw [S.l5Fits_l1, if_pos (by simpa using hi), idx_nthI v (by omega), Option.bind_some, idx_nthI _ hi, Option.bind_some, idx_pos _ g1 g2, Option.bind_some, w64_succ (by omega)]
      by_cases h9 : nthI f.2 (nthI m.2.1 i).toNat = nthI v i <;> simp [h9])]
    simp only [hr, decide_true, Bool.true_and]
    cases (List.range m.2.1.length).all fun i => decide (nthI f.2 (nthI m.2.1 i).toNat = nthI v i) <;> rfl
  · rw [if_pos (by simp [hr])]; simp [hr]
theorem matches_c1_M (m : Me) (a : Ac) (f : Fa) (h : Fit m a.2 f) : M.matches_c1 f m a = some (!fitsF m a.2 f) := by
  obtain ⟨h1, h2, h3⟩ := h
  unfold M.matches_c1 fitsF
  by_cases hr : f.1 = m.1
  · rw [if_neg (by simp [hr]), all_loopN (M.matches_c1_l1 m f a) m.2.1.length (fun i => decide (nthI f.2 (nthI m.2.1 i).toNat = nthI a.2 i)) true (by omega) (fun k => by rw [M.matches_c1_l1, if_neg (by simp)]) (fun k i hi => by
      obtain ⟨g1, g2⟩ := h3 hr i hi
      rw [M.matches_c1_l1, if_pos (by simpa using hi), idx_nthI _ hi, Option.bind_some, idx_pos _ g1 g2, Option.bind_some, idx_nthI a.2 (by omega), Option.bind_some, w64_succ (by omega)]
      by_cases h9 : nthI f.2 (nthI m.2.1 i).toNat = nthI a.2 i <;> simp [h9])]
    simp only [hr, decide_true, Bool.true_and]
    cases (List.range m.2.1.length).all fun i => decide (nthI f.2 (nthI m.2.1 i).toNat = nthI a.2 i) <;> rfl
  · rw [if_pos (by simp [hr])]; simp [hr]
theorem matches_M (l : List Me) (fs : List Fa) (a : Ac) (hf : SZ.sm fs) (hr : inR a.1 0 ((l.length : Int) - 1) = true) (h : ∀ f ∈ fs, Fit (methAt l a.1) a.2 f) : M.matches l fs a = some (fs.filter (fitsF (methAt l a.1) a.2)) := by
  have h0 := hf.1
  unfold M.matches
  rw [idx_in (0, [], 0, 0, 0) hr, copyFacts_id fs hf]
  simp only [Option.bind_some]
  rw [show l.getD a.1.toNat (0, [], 0, 0, 0) = methAt l a.1 from rfl]
  generalize methAt l a.1 = m at h
  unfold Slices.DeleteFunc_Limpl_Fact_impl_Fact_M_matches_c1
  rw [show (m.1, m.2.1, m.2.2.1, m.2.2.2.1, m.2.2.2.2) = m from rfl, show (a.1, a.2) = a from rfl]
  rw [Slices_IndexFunc_Limpl_Fact_impl_Fact_M_matches_c1_eq fs m a (fun f => !fitsF m a.2 f) (by omega) (fun e he => matches_c1_M m a e (h e he)), Option.bind_some,
    delete_eq (fun e => M.matches_c1 e m a) (fun f => !fitsF m a.2 f) fs (fun e he => matches_c1_M m a e (h e he)), Option.bind_some]
  simp
theorem acc_meth {s : List Int} {l : List Me} {a : Ac} (h : accOk s l a = true) : methsOk s l = true ∧ inR a.1 0 ((l.length : Int) - 1) = true ∧ methAt l a.1 ∈ l ∧ methOk s (methAt l a.1) = true ∧ a.2.length = (methAt l a.1).2.1.length := by
  unfold accOk at h
  simp only [Bool.and_eq_true, decide_eq_true_eq] at h
  obtain ⟨⟨⟨h1, h2⟩, h3⟩, h4⟩ := h
  have hm : methAt l a.1 ∈ l := by
    have := h2
    rw [inR_iff] at this
    unfold methAt
    have hn : a.1.toNat < l.length := by omega
    simp [hn]
  refine ⟨h1, h2, hm, ?_, by omega⟩
  unfold methsOk at h1
  simp only [Bool.and_eq_true, List.all_eq_true] at h1
  exact h1.2 _ hm
theorem facts_all {s : List Int} {l : List Fa} (h : factsOk s l = true) : ∀ f ∈ l, factOk s f = true := by
  unfold factsOk at h
  simp only [Bool.and_eq_true, List.all_eq_true, List.mem_range] at h
  intro f hf
  obtain ⟨i, hi, rfl⟩ := List.getElem_of_mem hf
  have := h.1 i hi
  unfold factAt nthF at this
  simp only [Bool.and_eq_true] at this
  simpa [hi] using this.1
theorem fit_of {s : List Int} {l : List Me} {a : Ac} {f : Fa} (ha : accOk s l a = true) (hf : factOk s f = true) (hz : a.2.length ≤ 1048576) : Fit (methAt l a.1) a.2 f := by
  obtain ⟨h1, h2, h3, h4, h5⟩ := acc_meth ha
  generalize methAt l a.1 = m at h4 h5
  refine ⟨h5.symm, hz, fun hr i hi => ?_⟩
  unfold methOk fitsOk at h4
  simp only [Bool.and_eq_true, List.all_eq_true] at h4
  have h6 := h4.2.1.2 (nthI m.2.1 i) (by unfold nthI; simp [hi])
  unfold factOk at hf
  simp only [Bool.and_eq_true, decide_eq_true_eq] at hf
  rw [inR_iff] at h6
  rw [hr] at hf
  omega
end Go.Gx.Px
