/- Plain laws: answers that disagree; the first conflict. Conditions: none. -/
import Derived.Test.YtkcdlbgpodogcaaPm
import Derived.Test.YtkcdlbgpodogcaaPhf
set_option linter.unusedVariables false
set_option linter.unusedSimpArgs false
namespace Go.Gx.Px
def lackF (m : Me) (u : To) (f : Fa) : Bool := fitsF m u.1.2 f && (!hasF u.2 f && (decide (m.2.2.1 = 0) || decide ((u.2.length : Int) < m.2.2.1)))
def lacks (l : List Me) (t u : To) : Bool := t.2.any (lackF (methAt l u.1.1) u)
def disF (s : List Int) (l : List Me) (t u : To) : Bool := selfOk s l t && selfOk s l u && (lacks l t u || lacks l u t)
theorem self_told {s : List Int} {l : List Me} {t : To} (h : selfOk s l t = true) : accOk s l t.1 = true ∧ factsOk s t.2 = true := by
  unfold selfOk at h
  rw [Bool.and_eq_true] at h
  exact told_of h.1
theorem lacks_S (s : List Int) (l : List Me) (t u : To) (ht : SZ.sm t) (hu : SZ.sm u) (h1 : selfOk s l t = true) (h2 : selfOk s l u = true) : S.l28Lacks l t u = some (lacks l t u) := by
  obtain ⟨a1, a2⟩ := self_told h1
  obtain ⟨b1, b2⟩ := self_told h2
  obtain ⟨-, g2, -, -, -⟩ := acc_meth b1
  have h3 := facts_all a2
  have hn := ht.2.1
  have h4 : ∀ f ∈ t.2, Fit (methAt l u.1.1) u.1.2 f := fun f hf => fit_of b1 (h3 f hf) hu.1.2.1
  unfold S.l28Lacks lacks
  rw [idx_in (0, [], 0, 0, 0) g2, Option.bind_some, show l.getD u.1.1.toNat (0, [], 0, 0, 0) = methAt l u.1.1 from rfl]
  generalize methAt l u.1.1 = m at h4
  rw [any_loop (S.l28Lacks_l1 t m u) t.2 (lackF m u) true (by omega) (fun k => by rw [S.l28Lacks_l1, if_neg (by simp)]) (fun k i hi => by
    have e1 := l5Fits_S m u.1.2 t.2[i] (h4 _ (List.getElem_mem hi))
    have e2 := HasFact_S u.2 t.2[i] hu.2 (ht.2.2 _ (List.getElem_mem hi))
    rw [S.l28Lacks_l1, if_pos (by simpa using hi), idx_nat _ hi, show (m.1, m.2.1, m.2.2.1, m.2.2.2.1, m.2.2.2.2) = m from rfl, w64_succ (by omega)]
    simp only [Option.bind_some, e1]
    unfold lackF
    cases fitsF m u.1.2 t.2[i]
    · rfl
    · simp only [if_true, Option.bind_some, e2, Bool.true_and]
      cases hasF u.2 t.2[i]
      · by_cases h7 : m.2.2.1 = 0 <;> simp [h7]
      · rfl)]
  cases t.2.any (lackF m u) <;> rfl
theorem denies_M (s : List Int) (l : List Me) (t u : To) (ht : SZ.sm t) (hu : SZ.sm u) (h1 : selfOk s l t = true) (h2 : selfOk s l u = true) (f : Fa) (hf : f ∈ t.2) : M.Told_denies u l f = some (lackF (methAt l u.1.1) u f) := by
  obtain ⟨a1, a2⟩ := self_told h1
  obtain ⟨b1, b2⟩ := self_told h2
  obtain ⟨-, g2, -, -, -⟩ := acc_meth b1
  have h3 := facts_all a2
  have hfs := ht.2.2 f hf
  have hm := matches_M l [f] u.1 ⟨by simp, fun e he => by rw [List.mem_singleton] at he; rw [he]; exact hfs⟩ g2 (fun e he => by rw [List.mem_singleton] at he; subst he; exact fit_of b1 (h3 e hf) hu.1.2.1)
  unfold M.Told_denies
  have e2 := HasFact_M u.2 f hu.2 hfs
  rw [idx_in (0, [], 0, 0, 0) g2, Option.bind_some, show (f.1, f.2) = f from rfl, show (u.1.1, u.1.2) = u.1 from rfl, hm, e2]
  rw [show l.getD u.1.1.toNat (0, [], 0, 0, 0) = methAt l u.1.1 from rfl]
  generalize methAt l u.1.1 = m
  unfold lackF
  rw [List.filter_cons, List.filter_nil]
  cases fitsF m u.1.2 f
  · rfl
  · cases hasF u.2 f
    · by_cases h7 : m.2.2.1 = 0 <;> simp [h7]
    · rfl
theorem Disagree_S (s : List Int) (l : List Me) (t u : To) (hs : SZ.sm s) (hl : SZ.sm l) (ht : SZ.sm t) (hu : SZ.sm u) : S.Disagree s l t u = some (disF s l t u) := by
  unfold S.Disagree disF
  rw [show ((t.1.1, t.1.2), t.2) = t from rfl, show ((u.1.1, u.1.2), u.2) = u from rfl, FitsSelf_S s l t hs hl ht, FitsSelf_S s l u hs hl hu]
  cases h1 : selfOk s l t
  · rfl
  · cases h2 : selfOk s l u
    · rfl
    · rw [lacks_S s l t u ht hu h1 h2, lacks_S s l u t hu ht h2 h1]
      cases lacks l t u <;> rfl
theorem Disagree_M (s : List Int) (l : List Me) (t u : To) (hs : SZ.sm s) (hl : SZ.sm l) (ht : SZ.sm t) (hu : SZ.sm u) : M.Disagree s l t u = some (disF s l t u) := by
  have n1 := ht.2.1
  have n2 := hu.2.1
  unfold M.Disagree disF
  rw [show ((t.1.1, t.1.2), t.2) = t from rfl, show ((u.1.1, u.1.2), u.2) = u from rfl, FitsSelf_M s l t hs hl ht, FitsSelf_M s l u hs hl hu]
  cases h1 : selfOk s l t
  · rfl
  · cases h2 : selfOk s l u
    · rfl
    · rw [Slices_ContainsFunc_Limpl_Fact_impl_Fact_M_Disagree_c1_eq t.2 u l (lackF (methAt l u.1.1) u) (by omega) (fun e he => by
          have := denies_M s l t u ht hu h1 h2 e he
          unfold M.Disagree_c1; rw [show (e.1, e.2) = e from rfl, this]; rfl),
        Slices_ContainsFunc_Limpl_Fact_impl_Fact_M_Disagree_c2_eq u.2 t l (lackF (methAt l t.1.1) t) (by omega) (fun e he => by
          have := denies_M s l u t hu ht h2 h1 e he
          unfold M.Disagree_c2; rw [show (e.1, e.2) = e from rfl, this]; rfl)]
      unfold lacks
      cases t.2.any (lackF (methAt l u.1.1) u) <;> rfl
theorem same_Disagree (s : List Int) (l : List Me) (t u : To) (z1 : SZ.sz s ≤ 1048576) (z2 : SZ.sz l ≤ 1048576) (z3 : SZ.sz t ≤ 1048576) (z4 : SZ.sz u ≤ 1048576) (_ : Rng.r s) (_ : Rng.r l) (_ : Rng.r t) (_ : Rng.r u) : ∃ r, S.Disagree s l t u = some r ∧ M.Disagree s l t u = some r ∧ SZ.sm r :=
  ⟨_, Disagree_S s l t u (sm_of z1) (sm_of z2) (sm_of z3) (sm_of z4), Disagree_M s l t u (sm_of z1) (sm_of z2) (sm_of z3) (sm_of z4), trivial⟩
/-! the first conflict -/
theorem some_loop {β : Type} (f : Nat → Int → Option (Sum Unit β)) (n : Nat) (h : Nat → Option β) (hn : n ≤ 4294967296) (he : ∀ k, f (k + 1) (n : Int) = some (.inl ()))
    (hs : ∀ k (i : Nat), i < n → f (k + 1) (i : Int) = (match h i with | some b => some (.inr b) | none => f k ((i + 1 : Nat) : Int))) :
    f FUEL 0 = some (match (List.range n).findSome? h with | some b => .inr b | none => .inl ()) := by
  have key : ∀ (K i : Nat), i ≤ n → n < i + K → f K (i : Int) = some (match ((List.range n).drop i).findSome? h with | some b => .inr b | none => .inl ()) := by
    intro K
    induction K with
    | zero => intro i h1 h2; omega
    | succ K ih =>
      intro i h1 h2
      by_cases hi : i < n
      · rw [hs K i hi, List.drop_eq_getElem_cons (by simpa using hi), List.findSome?_cons, List.getElem_range]
        cases h i with
        | some b => rfl
        | none => exact ih (i + 1) (by omega) (by omega)
      · obtain rfl : i = n := by omega
        have e0 : (List.range i).drop i = [] := List.drop_eq_nil_of_le (by simp)
        rw [he, e0]; rfl
  have := key FUEL 0 (by omega) (by rw [FUEL_eq]; omega)
  simpa using this
def conAt (s : List Int) (l : List Me) (a : List To) (i : Nat) : Option (Int × Int × Bool) :=
  if h : i < a.length then (if selfOk s l a[i] then (if 0 ≤ fidx (fun t => disF s l t a[i]) (a.take i) 0 then some (fidx (fun t => disF s l t a[i]) (a.take i) 0, (i : Int), true) else none) else some ((i : Int), (i : Int), true)) else none
def firstC (s : List Int) (l : List Me) (a : List To) : Int × Int × Bool := ((List.range a.length).findSome? (conAt s l a)).getD (-1, -1, false)
theorem find_loop {α β : Type} (f : Nat → Int → Option (Sum Unit β)) (a : List α) (q : α → Bool) (g : Int → β) (hn : a.length ≤ 4294967296) (he : ∀ k, f (k + 1) (a.length : Int) = some (.inl ()))
    (hs : ∀ k (i : Nat) (hi : i < a.length), f (k + 1) (i : Int) = if q a[i] then some (.inr (g (i : Int))) else f k ((i + 1 : Nat) : Int)) :
    f FUEL 0 = some (if 0 ≤ fidx q a 0 then .inr (g (fidx q a 0)) else .inl ()) := by
  have key : ∀ (K i : Nat), i ≤ a.length → a.length < i + K → f K (i : Int) = some (if 0 ≤ fidx q (a.drop i) i then .inr (g (fidx q (a.drop i) i)) else .inl ()) := by
    intro K
    induction K with
    | zero => intro i h1 h2; omega
    | succ K ih =>
      intro i h1 h2
      by_cases hi : i < a.length
      · rw [hs K i hi, List.drop_eq_getElem_cons hi]
        unfold fidx
        cases hq : q a[i]
        · simp only [Bool.false_eq_true, if_false]
          exact ih (i + 1) (by omega) (by omega)
        · simp
      · obtain rfl : i = a.length := by omega
        rw [he]; simp [fidx]
  have := key FUEL 0 (by omega) (by rw [FUEL_eq]; omega)
  simpa using this
theorem FirstConflict_S (s : List Int) (l : List Me) (a : List To) (hs : SZ.sm s) (hl : SZ.sm l) (ha : SZ.sm a) : S.FirstConflict s l a = some (firstC s l a) := by
  have hn := ha.1
  unfold S.FirstConflict firstC
  rw [some_loop (S.FirstConflict_l1 a s l) a.length (conAt s l a) (by omega) (fun k => by rw [S.FirstConflict_l1, if_neg (by simp)]) (fun k i hi => by
    have hm : a[i] ∈ a := List.getElem_mem hi
    rw [S.FirstConflict_l1, if_pos (by simpa using hi), idx_nat _ hi, Option.bind_some, FitsSelf_S s l _ hs hl (ha.2 _ hm), Option.bind_some, w64_succ (by omega)]
    unfold conAt
    rw [dif_pos hi]
    cases selfOk s l a[i]
    · rfl
    · have hlen : (a.take i).length = i := by rw [List.length_take]; omega
      have hlo := find_loop (S.FirstConflict_l2 (i : Int) a s l) (a.take i) (fun t => disF s l t a[i]) (fun j => (j, (i : Int), true)) (by omega) (fun k => by rw [hlen, S.FirstConflict_l2, if_neg (by simp)]) (fun k j hj => by
        rw [hlen] at hj
        have hjl : j < a.length := by omega
        rw [S.FirstConflict_l2, if_pos (by simpa using hj), idx_nat _ hjl, Option.bind_some, idx_nat _ hi, Option.bind_some, Disagree_S s l _ _ hs hl (ha.2 _ (List.getElem_mem hjl)) (ha.2 _ hm), Option.bind_some, w64_succ (by omega), List.getElem_take])
      rw [if_neg (by simp), hlo, Option.bind_some]
      by_cases h9 : 0 ≤ fidx (fun t => disF s l t a[i]) (a.take i) 0
      · simp [h9]
      · simp [h9])]
  cases (List.range a.length).findSome? (conAt s l a) <;> rfl
theorem FirstConflict_M (s : List Int) (l : List Me) (a : List To) (hs : SZ.sm s) (hl : SZ.sm l) (ha : SZ.sm a) : M.FirstConflict s l a = some (firstC s l a) := by
  have hn := ha.1
  unfold M.FirstConflict firstC
  rw [some_loop (M.FirstConflict_l1 a s l) a.length (conAt s l a) (by omega) (fun k => by rw [M.FirstConflict_l1, if_neg (by simp)]) (fun k i hi => by
    have hm : a[i] ∈ a := List.getElem_mem hi
    have hfs := FitsSelf_M s l _ hs hl (ha.2 _ hm)
    rw [M.FirstConflict_l1, if_pos (by simpa using hi), idx_nat _ hi, Option.bind_some, show ((a[i].1.1, a[i].1.2), a[i].2) = a[i] from rfl, hfs, Option.bind_some, w64_succ (by omega)]
    unfold conAt
    rw [dif_pos hi]
    cases selfOk s l a[i]
    · rfl
    · have hlen : (a.take i).length = i := by rw [List.length_take]; omega
      have hsub : sub a 0 (i : Int) = some (a.take i) := by
        unfold sub
        rw [if_pos ⟨by omega, by omega, by omega⟩]
        simp
      rw [if_neg (by simp), hsub, Option.bind_some, Slices_IndexFunc_Limpl_Told_impl_Told_M_FirstConflict_c1_eq (a.take i) s l a[i] (fun t => disF s l t a[i]) (by omega) (fun e he => by
        have := Disagree_M s l e a[i] hs hl (ha.2 _ (List.mem_of_mem_take he)) (ha.2 _ hm)
        unfold M.FirstConflict_c1; rw [show ((e.1.1, e.1.2), e.2) = e from rfl, this]; rfl), Option.bind_some]
      by_cases h9 : 0 ≤ fidx (fun t => disF s l t a[i]) (a.take i) 0
      · simp [h9]
      · simp [h9])]
  cases (List.range a.length).findSome? (conAt s l a) <;> rfl
theorem same_FirstConflict (s : List Int) (l : List Me) (a : List To) (z1 : SZ.sz s ≤ 1048576) (z2 : SZ.sz l ≤ 1048576) (z3 : SZ.sz a ≤ 1048576) (_ : Rng.r s) (_ : Rng.r l) (_ : Rng.r a) : ∃ r, S.FirstConflict s l a = some r ∧ M.FirstConflict s l a = some r ∧ SZ.sm r :=
  ⟨_, FirstConflict_S s l a (sm_of z1) (sm_of z2) (sm_of z3), FirstConflict_M s l a (sm_of z1) (sm_of z2) (sm_of z3), trivial, trivial, trivial⟩
def consF (s : List Int) (l : List Me) (a : List To) : Bool := methsOk s l && !(firstC s l a).2.2
theorem same_IsConsistent (s : List Int) (l : List Me) (a : List To) (z1 : SZ.sz s ≤ 1048576) (z2 : SZ.sz l ≤ 1048576) (z3 : SZ.sz a ≤ 1048576) (_ : Rng.r s) (_ : Rng.r l) (_ : Rng.r a) : ∃ r, S.IsConsistent s l a = some r ∧ M.IsConsistent s l a = some r ∧ SZ.sm r := by
  refine ⟨consF s l a, ?_, ?_, trivial⟩
  · unfold S.IsConsistent consF
    rw [FirstConflict_S s l a (sm_of z1) (sm_of z2) (sm_of z3), AreMethods_S s l (sm_of z1) (sm_of z2)]
    cases methsOk s l <;> rfl
  · unfold M.IsConsistent consF
    rw [FirstConflict_M s l a (sm_of z1) (sm_of z2) (sm_of z3), AreMethods_M s l (sm_of z1) (sm_of z2)]
    cases methsOk s l <;> rfl
end Go.Gx.Px
