/- Plain laws: facts that rules demand and that are denied. Conditions: none. -/
import Derived.Test.YtngpabaocflipaaGreatPord
set_option linter.unusedVariables false
set_option linter.unusedSimpArgs false
namespace Go.Gx.Px
abbrev Ru := Int × Int × List Int
def ruleOk (s : List Int) (r : Ru) : Bool := relOk s r.1 && (relOk s r.2.1 && (decide ((r.2.2.length : Int) = arity s r.2.1) && r.2.2.all fun v => inR v 0 (arity s r.1 - 1)))
theorem arePositions_M (l : List Int) (n : Int) (h : l.length ≤ 1048576) (hn : 1 ≤ n ∧ n ≤ 3) : M.arePositions l n = some (l.all fun v => inR v 0 (n - 1)) := by
  unfold M.arePositions
  rw [Slices_ContainsFunc_Lint_int_M_arePositions_c1_eq l n (fun v => !inR v 0 (n - 1)) (by omega) (fun e he => by unfold M.arePositions_c1; rw [inM, w64_sm (by omega) (by omega)]; rfl), any_not]
  simp
theorem IsRule_M (s : List Int) (r : Ru) (hs : SZ.sm s) (hr : SZ.sm r) : M.IsRule s r = some (ruleOk s r) := by
  have h0 := hs.1
  unfold M.IsRule ruleOk
  rw [hasRel_M s r.1 (by omega), hasRel_M s r.2.1 (by omega)]
  by_cases c1 : relOk s r.1 = true
  · by_cases c2 : relOk s r.2.1 = true
    · rw [c1, c2, idx_arity c1, idx_arity c2]
      have hp := arePositions_M r.2.2 (arity s r.1) hr.2.2.1 (arity_r c1)
      simp only [Option.bind_some, if_true, Bool.true_and, hp]
      by_cases c3 : (r.2.2.length : Int) = arity s r.2.1 <;> simp [c3]
    · rw [Bool.not_eq_true] at c2; rw [c1, c2]; simp
  · rw [Bool.not_eq_true] at c1; rw [c1]; simp
theorem IsRule_S (s : List Int) (r : Ru) (hs : SZ.sm s) (hr : SZ.sm r) : S.IsRule s r = some (ruleOk s r) := by
  have h0 := hs.1
  have h1 := hr.2.2.1
  unfold S.IsRule
  rw [IsSchema_S s (by omega), inS, inS, w64_sm (by omega) (by omega)]
  cases c0 : schOk s
  · simp [ruleOk, relOk, c0]
  · cases c1 : inR r.1 0 ((s.length : Int) - 1)
    · simp [ruleOk, relOk, c0, c1]
    · cases c2 : inR r.2.1 0 ((s.length : Int) - 1)
      · simp [ruleOk, relOk, c0, c1, c2]
      · have k1 : relOk s r.1 = true := by simp [relOk, c0, c1]
        have k2 : relOk s r.2.1 = true := by simp [relOk, c0, c2]
        obtain ⟨b1, b2⟩ := arity_r k1
        rw [idx_arity k2, all_loop (S.IsRule_l1 r s) r.2.2 (fun v => inR v 0 (arity s r.1 - 1)) false (by omega) (fun k => by rw [S.IsRule_l1, if_neg (by simp)]) (fun k i hi => by
          rw [S.IsRule_l1, if_pos (by simpa using hi), idx_nat _ hi, Option.bind_some, idx_arity k1, Option.bind_some, inS, w64_sm (by omega) (by omega), Option.bind_some, w64_succ (by omega)]
          cases inR (r.2.2[i]) 0 (arity s r.1 - 1) <;> rfl)]
        unfold ruleOk
        rw [k1, k2]
        by_cases c3 : (r.2.2.length : Int) = arity s r.2.1
        · simp only [c3, Option.bind_some]
          cases r.2.2.all fun v => inR v 0 (arity s r.1 - 1) <;> simp
        · simp [c3]
def rulesOk (s : List Int) (l : List Ru) : Bool := schOk s && decide ((l.length : Int) ≤ 4) && l.all (ruleOk s)
theorem AreRules_S (s : List Int) (l : List Ru) (hs : SZ.sm s) (hl : SZ.sm l) : S.AreRules s l = some (rulesOk s l) := by
  have h0 := hs.1
  have h1 := hl.1
  unfold S.AreRules rulesOk
  rw [all_loop (S.AreRules_l1 l s) l (ruleOk s) false (by omega) (fun k => by rw [S.AreRules_l1, if_neg (by simp)]) (fun k i hi => by
    rw [S.AreRules_l1, if_pos (by simpa using hi), idx_nat l hi, Option.bind_some, IsRule_S s _ hs (hl.2 _ (List.getElem_mem hi)), Option.bind_some, w64_succ (by omega)]
    cases ruleOk s l[i] <;> rfl), IsSchema_S s (by omega)]
  cases l.all (ruleOk s)
  · simp
  · cases schOk s <;> simp
theorem AreRules_M (s : List Int) (l : List Ru) (hs : SZ.sm s) (hl : SZ.sm l) : M.AreRules s l = some (rulesOk s l) := by
  have h0 := hs.1
  have h1 := hl.1
  unfold M.AreRules rulesOk
  rw [IsSchema_M s (by omega), Slices_ContainsFunc_Limpl_Rule_impl_Rule_M_AreRules_c1_eq l s (fun m => !ruleOk s m) (by omega) (fun e he => by
    have := IsRule_M s e hs (hl.2 _ he)
    unfold M.AreRules_c1; rw [show (e.1, e.2.1, e.2.2) = e from rfl, this]; rfl), any_not]
  cases schOk s <;> cases l.all (ruleOk s) <;> by_cases h : (l.length : Int) ≤ 4 <;> simp [h]
/-! what a rule demands -/
def appR (r : Ru) (f : Fa) : Fa := (r.2.1, r.2.2.map fun i => nthI f.2 i.toNat)
def RF (r : Ru) (f : Fa) : Prop := r.2.2.length ≤ 1048576 ∧ ∀ i ∈ r.2.2, 0 ≤ i ∧ i < (f.2.length : Int)
theorem l13Apply_S (r : Ru) (f : Fa) (h : RF r f) : S.l13Apply r f = some (appR r f) := by
  have hn := h.1
  obtain ⟨k, s', h1, h2⟩ := loop_inv0 (fun k (x : List Int) i => S.l13Apply_l1 r f k r.2.1 x i) (fun i x => x = (r.2.2.take i).map fun i => nthI f.2 i.toNat) r.2.2.length (by omega) [] (by simp) (fun k i x hi hx => ⟨_, by
    have hb := h.2 _ (List.getElem_mem hi)
    show S.l13Apply_l1 r f (k + 1) r.2.1 x (i : Int) = S.l13Apply_l1 r f k r.2.1 (x ++ [nthI f.2 (r.2.2[i]).toNat]) ((i + 1 : Nat) : Int)
    rw [S.l13Apply_l1, if_pos (by simpa using hi), idx_nat _ hi, Option.bind_some, idx_pos f.2 hb.1 hb.2, Option.bind_some, app_eq _ _ (by rw [hx]; simp; omega), Option.bind_some, w64_succ (by omega)], by
    rw [hx, List.take_add_one, List.getElem?_eq_getElem hi, List.map_append]; rfl⟩)
  have h1' : S.l13Apply_l1 r f FUEL r.2.1 [] 0 = S.l13Apply_l1 r f (k + 1) r.2.1 s' (r.2.2.length : Int) := h1
  unfold S.l13Apply
  rw [h1', S.l13Apply_l1, if_neg (by simp), h2, List.take_length]
  rfl
theorem implied_M (r : Ru) (f : Fa) (h : f.1 = r.1 → RF r f) : M.Rule_implied r f = some (if f.1 = r.1 then (appR r f, true) else ((0, []), false)) := by
  unfold M.Rule_implied
  by_cases c : f.1 = r.1
  · have hn := (h c).1
    rw [if_neg (by simp [c]), if_pos c]
    obtain ⟨k, s', h1, h2⟩ := loop_inv0 (fun k (x : List Int) i => M.Rule_implied_l1 r f k r.2.1 x i) (fun i x => x = (r.2.2.take i).map fun i => nthI f.2 i.toNat) r.2.2.length (by omega) [] (by simp) (fun k i x hi hx => ⟨_, by
      have hb := (h c).2 _ (List.getElem_mem hi)
      show M.Rule_implied_l1 r f (k + 1) r.2.1 x (i : Int) = M.Rule_implied_l1 r f k r.2.1 (x ++ [nthI f.2 (r.2.2[i]).toNat]) ((i + 1 : Nat) : Int)
      rw [M.Rule_implied_l1, if_pos (by simpa using hi), idx_nat _ hi, Option.bind_some, idx_pos f.2 hb.1 hb.2, Option.bind_some, app_eq _ _ (by rw [hx]; simp; omega), Option.bind_some, w64_succ (by omega)], by
      rw [hx, List.take_add_one, List.getElem?_eq_getElem hi, List.map_append]; rfl⟩)
    have h1' : M.Rule_implied_l1 r f FUEL r.2.1 [] 0 = M.Rule_implied_l1 r f (k + 1) r.2.1 s' (r.2.2.length : Int) := h1
    rw [h1', M.Rule_implied_l1, if_neg (by simp), h2, List.take_length]
    rfl
  · rw [if_pos (by simpa using c), if_neg c]
theorem rule_parts {s : List Int} {r : Ru} (h : ruleOk s r = true) : relOk s r.1 = true ∧ relOk s r.2.1 = true ∧ (r.2.2.length : Int) = arity s r.2.1 ∧ ∀ v ∈ r.2.2, 0 ≤ v ∧ v ≤ arity s r.1 - 1 := by
  unfold ruleOk at h
  rw [Bool.and_eq_true, Bool.and_eq_true, Bool.and_eq_true] at h
  exact ⟨h.1, h.2.1, of_decide_eq_true h.2.2.1, fun v hv => inR_iff.1 (List.all_eq_true.1 h.2.2.2 v hv)⟩
theorem rf_of {s : List Int} {r : Ru} {f : Fa} (h : ruleOk s r = true) (hf : factOk s f = true) (e : f.1 = r.1) : RF r f := by
  obtain ⟨h1, h2, h3, h4⟩ := rule_parts h
  obtain ⟨g1, g2, g3⟩ := fact_parts hf
  have := arity_r h2
  refine ⟨by omega, fun i hi => ?_⟩
  have := h4 i hi
  rw [e] at g2
  omega
theorem app_fact {s : List Int} {r : Ru} {f : Fa} (h : ruleOk s r = true) (hf : factOk s f = true) (e : f.1 = r.1) : factOk s (appR r f) = true := by
  obtain ⟨h1, h2, h3, h4⟩ := rule_parts h
  obtain ⟨g1, g2, g3⟩ := fact_parts hf
  rw [e] at g2
  unfold factOk appR
  simp only [h2, List.length_map, h3, decide_true, Bool.true_and]
  unfold valsOk
  rw [List.all_eq_true]
  intro x hx
  obtain ⟨i, hi, rfl⟩ := List.mem_map.1 hx
  have := h4 i hi
  have hlt : i.toNat < f.2.length := by omega
  apply inR_iff.2
  apply g3
  unfold nthI
  rw [List.getD_eq_getElem?_getD, List.getElem?_eq_getElem hlt]
  exact List.getElem_mem hlt
def stepR (fs : List Fa) (f : Fa) (acc : List Fa) (r : Ru) : List Fa := if f.1 = r.1 ∧ hasF fs (appR r f) = false then addF acc (appR r f) else acc
def missF (l : List Ru) (fs : List Fa) : List Fa := fs.foldl (fun acc f => l.foldl (stepR fs f) acc) []
/-- what is kept while facts are gathered -/
def Gat (s : List Int) (fs acc : List Fa) : Prop := Asc acc ∧ ∀ e ∈ acc, factOk s e = true ∧ hasF fs e = false
theorem gat_sm {s : List Int} {fs acc : List Fa} (h : Gat s fs acc) : SZ.sm acc := asc_sm h.1 fun e he => (h.2 e he).1
theorem gat_step {s : List Int} {fs acc : List Fa} {f : Fa} {r : Ru} (h : Gat s fs acc) (hr : ruleOk s r = true) (hf : factOk s f = true) : Gat s fs (stepR fs f acc r) := by
  unfold stepR
  split
  · rename_i c
    refine ⟨asc_add _ _ h.1, fun e he => ?_⟩
    rcases mem_addF he with he | rfl
    · exact h.2 e he
    · exact ⟨app_fact hr hf c.1, c.2⟩
  · exact h
theorem gat_fold {s : List Int} {fs : List Fa} {f : Fa} (hf : factOk s f = true) : ∀ (l : List Ru) (acc : List Fa), (∀ r ∈ l, ruleOk s r = true) → Gat s fs acc → Gat s fs (l.foldl (stepR fs f) acc)
  | [], _, _, h => h
  | r :: l, acc, hl, h => gat_fold hf l _ (fun r hr => hl r (List.mem_cons_of_mem _ hr)) (gat_step h (hl r (List.mem_cons_self ..)) hf)
theorem miss_M (s : List Int) (l : List Ru) (fs : List Fa) (hl : ∀ r ∈ l, ruleOk s r = true) (hn : l.length ≤ 4294967296) (hfs : ∀ f ∈ fs, factOk s f = true) (hm : SZ.sm fs) : M.missing l fs = some (missF l fs) ∧ Gat s fs (missF l fs) := by
  have hn2 := hm.1
  have key := fold_loop (M.missing_l1 fs l) fs (fun acc f => l.foldl (stepR fs f) acc) (Gat s fs) [] ⟨List.Pairwise.nil, by simp⟩ (by omega) (fun k x => by rw [M.missing_l1, if_neg (by simp)]) (fun k x i hi hx => by
    have hf := hfs _ (List.getElem_mem hi)
    have k2 := fold_loop (M.missing_l2 l fs[i] fs) l (stepR fs fs[i]) (Gat s fs) x hx hn (fun k x => by rw [M.missing_l2, if_neg (by simp)]) (fun k x j hj hx => by
      have hr := hl _ (List.getElem_mem hj)
      have e1 := implied_M l[j] fs[i] (rf_of hr hf)
      rw [M.missing_l2, if_pos (by simpa using hj), idx_nat l hj, Option.bind_some, show (l[j].1, l[j].2.1, l[j].2.2) = l[j] from rfl, show (fs[i].1, fs[i].2) = fs[i] from rfl, e1, Option.bind_some, w64_succ (by omega)]
      unfold stepR
      by_cases c : fs[i].1 = l[j].1
      · have hap := app_fact hr hf c
        have e2 := HasFact_M fs (appR l[j] fs[i]) hm (fact_sm hap)
        have e3 := added_M x (appR l[j] fs[i]) (gat_sm hx) (fact_sm hap)
        rw [if_pos c]
        simp only [if_true]
        rw [show ((appR l[j] fs[i]).1, (appR l[j] fs[i]).2) = appR l[j] fs[i] from rfl, e2, e3]
        cases hasF fs (appR l[j] fs[i]) <;> simp [c]
      · simp [c]) (fun x e he hx => gat_step hx (hl e he) hf)
    rw [M.missing_l1, if_pos (by simpa using hi), idx_nat fs hi, Option.bind_some, k2.1, Option.bind_some, w64_succ (by omega)]) (fun x e he hx => gat_fold (hfs e he) l x hl hx)
  refine ⟨?_, key.2⟩
  unfold M.missing
  rw [key.1]
  rfl
theorem miss_S (s : List Int) (l : List Ru) (fs : List Fa) (hl : ∀ r ∈ l, ruleOk s r = true) (hn : l.length ≤ 4294967296) (hfs : ∀ f ∈ fs, factOk s f = true) (hm : SZ.sm fs) : S.l13Missing l fs = some (missF l fs) := by
  have hn2 := hm.1
  have key := fold_loop (S.l13Missing_l1 fs l) fs (fun acc f => l.foldl (stepR fs f) acc) (Gat s fs) [] ⟨List.Pairwise.nil, by simp⟩ (by omega) (fun k x => by rw [S.l13Missing_l1, if_neg (by simp)]) (fun k x i hi hx => by
    have hf := hfs _ (List.getElem_mem hi)
    have k2 := fold_loop (S.l13Missing_l2 l fs (i : Int)) l (stepR fs fs[i]) (Gat s fs) x hx hn (fun k x => by rw [S.l13Missing_l2, if_neg (by simp)]) (fun k x j hj hx => by
      have hr := hl _ (List.getElem_mem hj)
      rw [S.l13Missing_l2, if_pos (by simpa using hj), idx_nat l hj, Option.bind_some, idx_nat fs hi, Option.bind_some, w64_succ (by omega)]
      unfold stepR
      by_cases c : fs[i].1 = l[j].1
      · have hap := app_fact hr hf c
        have e1 := l13Apply_S l[j] fs[i] (rf_of hr hf c)
        have e2 := HasFact_S fs (appR l[j] fs[i]) hm (fact_sm hap)
        have e3 := AddFact_S x (appR l[j] fs[i]) (gat_sm hx) (fact_sm hap)
        rw [if_neg (by simp [c]), Option.bind_some, Option.bind_some, e1, Option.bind_some, show ((appR l[j] fs[i]).1, (appR l[j] fs[i]).2) = appR l[j] fs[i] from rfl, e2, e3]
        cases hasF fs (appR l[j] fs[i]) <;> simp [c]
      · rw [if_pos (by simpa using fun h => c h.symm), if_neg (fun h => c h.1)]) (fun x e he hx => gat_step hx (hl e he) hf)
    rw [S.l13Missing_l1, if_pos (by simpa using hi), k2.1, Option.bind_some, w64_succ (by omega)]) (fun x e he hx => gat_fold (hfs e he) l x hl hx)
  unfold S.l13Missing
  rw [key.1]
  rfl
/-! what is denied -/
def denF (l : List Me) (t : To) (f : Fa) : Bool := fitsF (methAt l t.1.1) t.1.2 f && (decide ((methAt l t.1.1).2.2.1 = 0) || decide ((t.2.length : Int) < (methAt l t.1.1).2.2.1))
theorem denies_fact (s : List Int) (l : List Me) (u : To) (hu : SZ.sm u) (h2 : selfOk s l u = true) (f : Fa) (hf : factOk s f = true) (hn : f ∉ u.2) : M.Told_denies u l f = some (denF l u f) := by
  obtain ⟨b1, b2⟩ := self_told h2
  obtain ⟨-, g2, -, -, -⟩ := acc_meth b1
  have hfs := fact_sm hf
  have hm := matches_M l [f] u.1 ⟨by simp, fun e he => by rw [List.mem_singleton] at he; rw [he]; exact hfs⟩ g2 (fun e he => by rw [List.mem_singleton] at he; subst he; exact fit_of b1 hf hu.1.2.1)
  unfold M.Told_denies
  have e2 := HasFact_M u.2 f hu.2 hfs
  rw [hasF_no.2 hn] at e2
  rw [idx_in (0, [], 0, 0, 0) g2, Option.bind_some, show (f.1, f.2) = f from rfl, show (u.1.1, u.1.2) = u.1 from rfl, hm, e2]
  rw [show l.getD u.1.1.toNat (0, [], 0, 0, 0) = methAt l u.1.1 from rfl]
  unfold denF
  generalize methAt l u.1.1 = m
  rw [List.filter_cons, List.filter_nil]
  cases fitsF m u.1.2 f
  · rfl
  · by_cases h7 : m.2.2.1 = 0 <;> simp [h7]
theorem broken_M (s : List Int) (l : List Me) (a : List To) (fs : List Fa) (ha : SZ.sm a) (hself : ∀ t ∈ a, selfOk s l t = true) (hf : ∀ f ∈ fs, factOk s f = true ∧ ∀ t ∈ a, f ∉ t.2) (hn : fs.length ≤ 1048576) : Slices.DeleteFunc_Limpl_Fact_impl_Fact_M_BrokenRules_c1 fs a l = some (fs.filter fun f => a.any fun t => denF l t f) := by
  have h : ∀ e ∈ fs, M.BrokenRules_c1 e a l = some (!(a.any fun t => denF l t e)) := fun e he => by
    obtain ⟨h1, h2⟩ := hf e he
    unfold M.BrokenRules_c1
    rw [Slices_ContainsFunc_Limpl_Told_impl_Told_M_BrokenRules_c1_c1_eq a l (e.1, e.2) (fun t => denF l t e) (by have := ha.1; omega) (fun t ht => by
      have := denies_fact s l t (ha.2 t ht) (hself t ht) e h1 (h2 t ht)
      unfold M.BrokenRules_c1_c1; rw [show ((t.1.1, t.1.2), t.2) = t from rfl, show (e.1, e.2) = e from rfl, this]; rfl)]
    rfl
  unfold Slices.DeleteFunc_Limpl_Fact_impl_Fact_M_BrokenRules_c1
  rw [Slices_IndexFunc_Limpl_Fact_impl_Fact_M_BrokenRules_c1_eq fs a l (fun e => !(a.any fun t => denF l t e)) (by omega) h, Option.bind_some]
  have := delete_eq (fun e => M.BrokenRules_c1 e a l) (fun e => !(a.any fun t => denF l t e)) fs h
  simpa only [Bool.not_not] using this
theorem den_loop (s : List Int) (l : List Me) (a : List To) (f : Fa) (ha : SZ.sm a) (hself : ∀ t ∈ a, selfOk s l t = true) (hf : factOk s f = true) : S.BrokenRules_l2 a l f FUEL false 0 = some (a.any fun t => denF l t f) := by
  have hn := ha.1
  obtain ⟨k, s', h1, h2⟩ := loop_inv0 (fun k (x : Bool) i => S.BrokenRules_l2 a l f k x i) (fun i x => x = (a.take i).any fun t => denF l t f) a.length (by omega) false (by simp) (fun k i x hi hx => ⟨x || denF l a[i] f, by
    have hs1 := hself _ (List.getElem_mem hi)
    obtain ⟨b1, b2⟩ := self_told hs1
    obtain ⟨-, g2, -, -, -⟩ := acc_meth b1
    have e1 := l5Fits_S (methAt l a[i].1.1) a[i].1.2 f (fit_of b1 hf (ha.2 _ (List.getElem_mem hi)).1.2.1)
    show S.BrokenRules_l2 a l f (k + 1) x (i : Int) = S.BrokenRules_l2 a l f k _ ((i + 1 : Nat) : Int)
    rw [S.BrokenRules_l2, if_pos (by simpa using hi), idx_nat a hi, Option.bind_some, idx_in (0, [], 0, 0, 0) g2, Option.bind_some, w64_succ (by omega)]
    rw [show l.getD a[i].1.1.toNat (0, [], 0, 0, 0) = methAt l a[i].1.1 from rfl]
    unfold denF
    generalize methAt l a[i].1.1 = m at e1
    cases x
    · simp only [Bool.false_eq_true, if_false, Option.bind_some, Bool.false_or]
      rw [show (m.1, m.2.1, m.2.2.1, m.2.2.2.1, m.2.2.2.2) = m from rfl, show (f.1, f.2) = f from rfl, e1, Option.bind_some]
      cases fitsF m a[i].1.2 f
      · rfl
      · by_cases h7 : m.2.2.1 = 0 <;> simp [h7]
    · simp, by
    rw [hx, List.take_add_one, List.getElem?_eq_getElem hi, List.any_append]; simp⟩)
  have h1' : S.BrokenRules_l2 a l f FUEL false 0 = S.BrokenRules_l2 a l f (k + 1) s' (a.length : Int) := h1
  rw [h1', S.BrokenRules_l2, if_neg (by simp), h2, List.take_length]
theorem broken_S (s : List Int) (l : List Me) (a : List To) (fs : List Fa) (ha : SZ.sm a) (hself : ∀ t ∈ a, selfOk s l t = true) (hn : fs.length ≤ 1048576) (hf : ∀ f ∈ fs, factOk s f = true) : S.BrokenRules_l1 fs a l FUEL [] 0 = some (fs.filter fun f => a.any fun t => denF l t f) := by
  rw [flat_loop (S.BrokenRules_l1 fs a l) fs (fun e => if (a.any fun t => denF l t e) then [e] else []) (by omega) (fun k x => by rw [S.BrokenRules_l1, if_neg (by simp)]) (fun k x i hi hx => by
    have e1 := den_loop s l a fs[i] ha hself (hf _ (List.getElem_mem hi))
    have hl := filter_flat_len (fun e => a.any fun t => denF l t e) fs i
    rw [← hx] at hl
    rw [S.BrokenRules_l1, if_pos (by simpa using hi), idx_nat fs hi, Option.bind_some, e1, Option.bind_some, w64_succ (by omega)]
    cases a.any fun t => denF l t fs[i]
    · simp
    · rw [if_pos rfl, app_eq _ _ (by simp; omega)]; rfl), flat_filter]
theorem same_BrokenRules (s : List Int) (l : List Me) (r : List Ru) (a : List To) (z1 : SZ.sz s ≤ 1048576) (z2 : SZ.sz l ≤ 1048576) (z3 : SZ.sz r ≤ 1048576) (z4 : SZ.sz a ≤ 1048576) (y1 : Rng.r s) (y2 : Rng.r l) (y3 : Rng.r r) (y4 : Rng.r a) :
    ∃ x, S.BrokenRules s l r a = some x ∧ M.BrokenRules s l r a = some x ∧ SZ.sm x := by
  have hs := sm_of z1
  have hl := sm_of z2
  have hr := sm_of z3
  have ha := sm_of z4
  have hr1 := hr.1
  have eS : S.IsConsistent s l a = some (consF s l a) := by
    unfold S.IsConsistent consF
    rw [FirstConflict_S s l a hs hl ha, AreMethods_S s l hs hl]
    cases methsOk s l <;> rfl
  have eM : M.IsConsistent s l a = some (consF s l a) := by
    unfold M.IsConsistent consF
    rw [FirstConflict_M s l a hs hl ha, AreMethods_M s l hs hl]
    cases methsOk s l <;> rfl
  unfold S.BrokenRules M.BrokenRules S.l14Fine
  rw [AreMethods_S s l hs hl, AreRules_S s r hs hr, AreRules_M s r hs hr, eS, eM]
  have hcm : consF s l a = true → methsOk s l = true := fun h => by unfold consF at h; rw [Bool.and_eq_true] at h; exact h.1
  cases hcons : consF s l a
  · refine ⟨[], ?_, ?_, sm_nil⟩
    · cases methsOk s l <;> cases rulesOk s r <;> rfl
    · cases rulesOk s r <;> rfl
  · rw [hcm hcons]
    cases hru : rulesOk s r
    · exact ⟨[], rfl, rfl, sm_nil⟩
    · have hself := con_self hcons
      have hrule : ∀ x ∈ r, ruleOk s x = true := by
        unfold rulesOk at hru
        rw [Bool.and_eq_true] at hru
        exact List.all_eq_true.1 hru.2
      have hU : ∀ e ∈ unF a [], factOk s e = true := fun e he => by
        rcases (mem_unF a [] e).1 he with he | ⟨t, ht, he⟩
        · cases he
        · exact facts_all (self_told (hself t ht)).2 e he
      have hUm : SZ.sm (unF a []) := asc_sm (asc_unF a [] List.Pairwise.nil) hU
      obtain ⟨m1, m2⟩ := miss_M s r (unF a []) hrule (by omega) hU hUm
      have m3 := miss_S s r (unF a []) hrule (by omega) hU hUm
      have hmm := gat_sm m2
      have hb := broken_M s l a (missF r (unF a [])) ha hself (fun f hf => ⟨(m2.2 f hf).1, fun t ht hft => by
        have := (m2.2 f hf).2
        rw [hasF_no] at this
        exact this ((mem_unF a [] f).2 (.inr ⟨t, ht, hft⟩))⟩) hmm.1
      have hb2 := broken_S s l a (missF r (unF a [])) ha hself hmm.1 (fun f hf => (m2.2 f hf).1)
      refine ⟨(missF r (unF a [])).filter (fun f => a.any fun t => denF l t f), ?_, ?_, sm_filter hmm _⟩
      · simp only [Option.bind_some, if_true, Bool.not_true, Bool.false_eq_true, if_false, UnionOf_S a z4, m3, hb2]
      · simp only [Option.bind_some, Bool.not_true, Bool.false_eq_true, if_false, UnionOf_M a z4, m1, hb]
end Go.Gx.Px
