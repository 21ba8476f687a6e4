/- Plain laws: schemas, facts, methods and accesses that are drawn; their texts. Conditions: none. -/
import Derived.Test.YtojmmbafoakfkaaPffA
set_option linter.unusedVariables false
set_option linter.unusedSimpArgs false
namespace Go.Gx.Px
abbrev Mf := Int × List Int × Int × Int × Int
theorem once_ok (a : Code) (p s n : Int) (ha : a.length ≤ 1048576) (hp : Pos a p) (h0 : 0 < n) (h1 : n ≤ 256) : ∃ (b : Bool) (q t : Int), S.l1Once (a, p, s) n = some (b, (a, q, t)) ∧ Pos a q := by
  obtain ⟨v, q, t, e, -, -, hq⟩ := below_ok a p s n ha hp h0 h1
  unfold S.l1Once
  rw [e, Option.bind_some]
  exact ⟨_, _, _, rfl, hq⟩
theorem below_big (a : Code) (p s n : Int) (ha : a.length ≤ 1048576) (hp : Pos a p) (h0 : 0 < n) : ∃ v q t, S.l1Below (a, p, s) n = some (v, (a, q, t)) ∧ 0 ≤ v ∧ v < n ∧ Pos a q := by
  by_cases h1 : n ≤ 256
  · exact below_ok a p s n ha hp h0 h1
  · obtain ⟨v1, q1, t1, e1, a1, b1, p1⟩ := byte_ok a p s ha hp
    obtain ⟨v2, q2, t2, e2, a2, b2, p2⟩ := byte_ok a q1 t1 ha p1
    obtain ⟨v3, q3, t3, e3, a3, b3, p3⟩ := byte_ok a q2 t2 ha p2
    obtain ⟨v4, q4, t4, e4, a4, b4, p4⟩ := byte_ok a q3 t3 ha p3
    unfold S.l1Below
    have hz : nz n = some () := by unfold nz; rw [if_neg (by omega)]
    rw [if_neg (by simp; omega), if_neg (by simpa using h1), e1, Option.bind_some]
    simp only
    rw [e2, Option.bind_some]
    simp only
    rw [e3, Option.bind_some]
    simp only
    rw [e4, Option.bind_some, hz, Option.bind_some]
    simp only
    have hw : w64 (w64 (w64 (w64 (v1 * 16777216) + w64 (v2 * 65536)) + w64 (v3 * 256)) + v4) = v1 * 16777216 + v2 * 65536 + v3 * 256 + v4 := by
      rw [w64_id (n := v1 * 16777216) (by omega) (by omega), w64_id (n := v2 * 65536) (by omega) (by omega), w64_id (n := v3 * 256) (by omega) (by omega), w64_id (n := v1 * 16777216 + v2 * 65536) (by omega) (by omega), w64_id (n := v1 * 16777216 + v2 * 65536 + v3 * 256) (by omega) (by omega), w64_id (by omega) (by omega)]
    rw [hw]
    refine ⟨_, _, _, rfl, ?_, ?_, p4⟩
    · rw [Int.tmod_eq_emod_of_nonneg (by omega)]; exact Int.emod_nonneg _ (by omega)
    · rw [Int.tmod_eq_emod_of_nonneg (by omega)]; exact Int.emod_lt_of_pos _ h0
theorem w64_down (n : Nat) (h : n < 4294967296) : w64 (((n + 1 : Nat) : Int) - 1) = (n : Int) := by rw [w64_sm (by omega) (by omega)]; omega
theorem schema_loop (a : Code) (ha : a.length ≤ 1048576) (c : Code × Int × Int) (hc : c.1 = a) : ∀ (n K : Nat) (p s : Int) (l : List Int), n < K → l.length + n ≤ 100 → (∀ x ∈ l, 1 ≤ x ∧ x ≤ 3) → Pos a p → ∃ q t m, S.l2Schema_l1 c K p s l (n : Int) = some (q, t, m) ∧ m.length = l.length + n ∧ (∀ x ∈ m, 1 ≤ x ∧ x ≤ 3) ∧ Pos a q := by
  intro n
  induction n with
  | zero =>
    intro K p s l hK hl hm hp
    obtain ⟨K, rfl⟩ : ∃ k, K = k + 1 := ⟨K - 1, by omega⟩
    rw [S.l2Schema_l1, if_neg (by simp)]
    exact ⟨_, _, _, rfl, by omega, hm, hp⟩
  | succ n ih =>
    intro K p s l hK hl hm hp
    obtain ⟨K, rfl⟩ : ∃ k, K = k + 1 := ⟨K - 1, by omega⟩
    obtain ⟨v1, q1, t1, e1, h0, h1, p1⟩ := below_ok a p s 2 ha hp (by omega) (by omega)
    obtain ⟨b2, q2, t2, e2, p2⟩ := once_ok a q1 t1 4 ha p1 (by omega) (by omega)
    rw [S.l2Schema_l1, if_pos (decide_eq_true (by omega)), hc, e1, Option.bind_some]
    simp only
    rw [e2, Option.bind_some]
    simp only
    have hx : ∃ x, (if b2 = true then some (3 : Int) else some (w64 (1 + v1))) = some x ∧ 1 ≤ x ∧ x ≤ 3 := by
      cases b2
      · exact ⟨_, rfl, by rw [w64_sm (by omega) (by omega)]; omega, by rw [w64_sm (by omega) (by omega)]; omega⟩
      · exact ⟨3, rfl, by omega, by omega⟩
    obtain ⟨x, hx1, hx2⟩ := hx
    rw [hx1, Option.bind_some, app_eq _ _ (by simp; omega), Option.bind_some, w64_down n (by omega)]
    obtain ⟨q, t, m, g1, g2, g3, g4⟩ := ih K q2 t2 (l ++ [x]) (by omega) (by simp; omega) (fun y hy => by
      rcases List.mem_append.1 hy with hy | hy
      · exact hm y hy
      · rw [List.mem_singleton] at hy; subst hy; exact hx2) p2
    exact ⟨q, t, m, g1, by rw [g2]; simp; omega, g3, g4⟩
theorem schema_ok (a : Code) (p s : Int) (ha : a.length ≤ 1048576) (hp : Pos a p) : ∃ (m : List Int) (q t : Int), S.l2Schema (a, p, s) = some (m, (a, q, t)) ∧ schOk m = true ∧ m.length ≤ 3 ∧ Pos a q := by
  obtain ⟨v1, q1, t1, e1, h0, h1, p1⟩ := below_ok a p s 3 ha hp (by omega) (by omega)
  obtain ⟨n, rfl⟩ : ∃ n : Nat, v1 = n := ⟨v1.toNat, by omega⟩
  obtain ⟨q2, t2, m, e2, hl, hm, p2⟩ := schema_loop a ha (a, p, s) rfl (n + 1) FUEL q1 t1 [] (by rw [FUEL_eq]; omega) (by simp; omega) (fun x hx => by cases hx) p1
  unfold S.l2Schema
  rw [e1, Option.bind_some]
  simp only
  have e3 : w64 (1 + (n : Int)) = ((n + 1 : Nat) : Int) := by rw [w64_sm (by omega) (by omega)]; omega
  rw [e3, e2]
  simp only [List.length_nil, Nat.zero_add] at hl
  refine ⟨m, q2, t2, rfl, ?_, by omega, p2⟩
  unfold schOk
  rw [Bool.and_eq_true, List.all_eq_true, inR_iff]
  exact ⟨fun x hx => inR_iff.2 (hm x hx), by omega⟩
theorem anySchema_ok (a : Code) (p s : Int) (ha : a.length ≤ 1048576) (hp : Pos a p) : ∃ (m : List Int) (q t : Int), S.l2AnySchema (a, p, s) = some (m, (a, q, t)) ∧ Pos a q := by
  obtain ⟨m, q1, t1, e1, -, hl, p1⟩ := schema_ok a p s ha hp
  obtain ⟨b, q2, t2, e2, p2⟩ := once_ok a q1 t1 14 ha p1 (by omega) (by omega)
  unfold S.l2AnySchema
  rw [e1, Option.bind_some]
  simp only
  rw [e2, Option.bind_some]
  simp only
  cases b
  · exact ⟨m, q2, t2, rfl, p2⟩
  · obtain ⟨v, q3, t3, e3, -, p3⟩ := pick_ok a q2 t2 [0, 1, 4] ha p2 (by simp) (by simp)
    rw [if_pos rfl, e3, Option.bind_some, app_eq _ _ (by simp; omega)]
    exact ⟨_, q3, t3, rfl, p3⟩
theorem sch_arity {sc : List Int} (h : schOk sc = true) {i : Nat} (hi : i < sc.length) : 1 ≤ sc[i] ∧ sc[i] ≤ 3 := by
  unfold schOk at h
  rw [Bool.and_eq_true, List.all_eq_true] at h
  exact inR_iff.1 (h.1 _ (List.getElem_mem hi))
theorem fact_loop (a : Code) (ha : a.length ≤ 1048576) (sc : List Int) (c : Code × Int × Int) (hc : c.1 = a) (w : Int) (hw : 0 < w ∧ w ≤ 256) (r : Nat) (hr : r < sc.length) (ar : Nat) (har : sc[r] = (ar : Int)) (h3 : ar ≤ 3) :
    ∀ (n K : Nat) (p s : Int) (l : List Int) (i : Nat), i + n = ar → l.length = i → n < K → Pos a p → ∃ q t m, S.l2Fact_l1 sc c w K (r : Int) l p s (i : Int) = some ((r : Int), m, q, t) ∧ m.length = ar ∧ Pos a q := by
  intro n
  induction n with
  | zero =>
    intro K p s l i h1 h2 hK hp
    obtain ⟨K, rfl⟩ : ∃ k, K = k + 1 := ⟨K - 1, by omega⟩
    rw [S.l2Fact_l1, idx_nat sc hr, Option.bind_some, if_neg (by rw [har]; simp; omega)]
    exact ⟨_, _, _, rfl, by omega, hp⟩
  | succ n ih =>
    intro K p s l i h1 h2 hK hp
    obtain ⟨K, rfl⟩ : ∃ k, K = k + 1 := ⟨K - 1, by omega⟩
    obtain ⟨v1, q1, t1, e1, -, -, p1⟩ := below_ok a p s w ha hp hw.1 hw.2
    rw [S.l2Fact_l1, idx_nat sc hr, Option.bind_some, if_pos (by rw [har]; exact decide_eq_true (by omega)), hc, e1, Option.bind_some, app_eq _ _ (by simp; omega), Option.bind_some, w64_succ (by omega)]
    exact ih K q1 t1 _ (i + 1) (by omega) (by simp; omega) (by omega) p1
theorem fact_ok (a : Code) (p s : Int) (sc : List Int) (w : Int) (ha : a.length ≤ 1048576) (hp : Pos a p) (hs : schOk sc = true) (hw : 0 < w ∧ w ≤ 256) :
    ∃ (f : Fa) (q t : Int), S.l2Fact (a, p, s) sc w = some (f, (a, q, t)) ∧ 1 ≤ f.2.length ∧ f.2.length ≤ 3 ∧ Pos a q := by
  have hl := sch_len hs
  obtain ⟨v1, q1, t1, e1, h0, h1, p1⟩ := below_ok a p s (sc.length : Int) ha hp (by omega) (by omega)
  obtain ⟨r, rfl⟩ : ∃ r : Nat, v1 = r := ⟨v1.toNat, by omega⟩
  have hr : r < sc.length := by omega
  have har := sch_arity hs hr
  obtain ⟨ar, har2⟩ : ∃ n : Nat, sc[r] = (n : Int) := ⟨(sc[r]).toNat, by omega⟩
  obtain ⟨q2, t2, m, e2, hm, p2⟩ := fact_loop a ha sc (a, p, s) rfl w hw r hr ar har2 (by omega) ar FUEL q1 t1 [] 0 (by omega) rfl (by rw [FUEL_eq]; omega) p1
  have e2' : S.l2Fact_l1 sc (a, p, s) w FUEL (r : Int) [] q1 t1 0 = some ((r : Int), m, q2, t2) := e2
  unfold S.l2Fact
  rw [e1, Option.bind_some]
  simp only
  rw [e2']
  exact ⟨((r : Int), m), q2, t2, rfl, by show 1 ≤ m.length; omega, by show m.length ≤ 3; omega, p2⟩
theorem mem_addF' {l : List Fa} {f e : Fa} (h : e ∈ addF l f) : e ∈ l ∨ e = f := by
  unfold addF at h
  split at h
  · exact .inl h
  · rcases List.mem_append.1 h with h | h
    · rcases List.mem_append.1 h with h | h
      · exact .inl (List.mem_of_mem_take h)
      · exact .inr (List.mem_singleton.1 h)
    · exact .inl (List.mem_of_mem_drop h)
theorem sm_fact {f : Fa} (h : f.2.length ≤ 1048576) : SZ.sm f := ⟨trivial, sm_ints h⟩
theorem facts_loop (a : Code) (ha : a.length ≤ 1048576) (sc : List Int) (hs : schOk sc = true) (c : Code × Int × Int) (hc : c.1 = a) : ∀ (n K : Nat) (p s : Int) (l : List Fa), n < K → l.length + n ≤ 100 → SZ.sm l → (∀ f ∈ l, f.2.length ≤ 3) → Pos a p → ∃ q t m, S.l2Facts_l1 c sc K p s l (n : Int) = some (q, t, m) ∧ m.length ≤ l.length + n ∧ SZ.sm m ∧ (∀ f ∈ m, f.2.length ≤ 3) ∧ Pos a q := by
  intro n
  induction n with
  | zero =>
    intro K p s l hK hl hm hf hp
    obtain ⟨K, rfl⟩ : ∃ k, K = k + 1 := ⟨K - 1, by omega⟩
    rw [S.l2Facts_l1, if_neg (by simp)]
    exact ⟨_, _, _, rfl, by omega, hm, hf, hp⟩
  | succ n ih =>
    intro K p s l hK hl hm hf hp
    obtain ⟨K, rfl⟩ : ∃ k, K = k + 1 := ⟨K - 1, by omega⟩
    obtain ⟨f, q1, t1, e1, h0, h1, p1⟩ := fact_ok a p s sc 4 ha hp hs ⟨by omega, by omega⟩
    have hsf := sm_fact (f := f) (by omega)
    have hlen := addF_len l f
    rw [S.l2Facts_l1, if_pos (decide_eq_true (by omega)), hc, e1, Option.bind_some]
    simp only
    rw [AddFact_S l f hm hsf, Option.bind_some, w64_down n (by omega)]
    obtain ⟨q, t, m, g1, g2, g3, g4, g5⟩ := ih K q1 t1 (addF l f) (by omega) (by omega) (sm_add hm hsf (by omega)) (fun e he => by
      rcases mem_addF' he with he | rfl
      · exact hf e he
      · exact h1) p1
    exact ⟨q, t, m, g1, by omega, g3, g4, g5⟩
theorem facts_ok (a : Code) (p s : Int) (sc : List Int) (most : Int) (ha : a.length ≤ 1048576) (hp : Pos a p) (hs : schOk sc = true) (hm : 0 ≤ most ∧ most ≤ 90) :
    ∃ (l : List Fa) (q t : Int), S.l2Facts (a, p, s) sc most = some (l, (a, q, t)) ∧ (l.length : Int) ≤ most ∧ SZ.sm l ∧ (∀ f ∈ l, f.2.length ≤ 3) ∧ Pos a q := by
  obtain ⟨v1, q1, t1, e1, h0, h1, p1⟩ := below_ok a p s (most + 1) ha hp (by omega) (by omega)
  obtain ⟨n, rfl⟩ : ∃ n : Nat, v1 = n := ⟨v1.toNat, by omega⟩
  obtain ⟨q2, t2, m, e2, hl, hsm, hf, p2⟩ := facts_loop a ha sc hs (a, p, s) rfl n FUEL q1 t1 [] (by rw [FUEL_eq]; omega) (by simp; omega) sm_nil (fun f hf => by cases hf) p1
  unfold S.l2Facts
  rw [w64_sm (by omega) (by omega), e1, Option.bind_some]
  simp only
  rw [e2]
  exact ⟨m, q2, t2, rfl, by simp at hl; omega, hsm, hf, p2⟩
theorem anyFact_ok (a : Code) (p s : Int) (sc : List Int) (ha : a.length ≤ 1048576) (hp : Pos a p) (hs : schOk sc = true) :
    ∃ (f : Fa) (q t : Int), S.l2AnyFact (a, p, s) sc = some (f, (a, q, t)) ∧ f.2.length ≤ 4 ∧ Pos a q := by
  have hl := sch_len hs
  obtain ⟨f, q1, t1, e1, h0, h1, p1⟩ := fact_ok a p s sc 10 ha hp hs ⟨by omega, by omega⟩
  obtain ⟨v2, q2, t2, e2, -, -, p2⟩ := below_ok a q1 t1 8 ha p1 (by omega) (by omega)
  unfold S.l2AnyFact
  rw [IsSchema_S sc (by omega), hs, Option.bind_some, if_pos rfl, e1, Option.bind_some, Option.bind_some]
  simp only
  rw [e2, Option.bind_some]
  simp only
  by_cases c0 : v2 = 0
  · obtain ⟨v3, q3, t3, e3, -, -, p3⟩ := below_ok a q2 t2 5 ha p2 (by omega) (by omega)
    rw [if_pos (decide_eq_true c0), e3]
    exact ⟨_, q3, t3, rfl, by show f.2.length ≤ 4; omega, p3⟩
  · rw [if_neg (by simpa using c0)]
    by_cases c1 : v2 = 1
    · obtain ⟨v3, q3, t3, e3, -, p3⟩ := pick_ok a q2 t2 [-1, 9, 10] ha p2 (by simp) (by simp)
      have hi : idx f.2 0 = some (f.2[0]'(by omega)) := idx_nat f.2 (i := 0) (by omega)
      rw [if_pos (decide_eq_true c1), e3, Option.bind_some, hi]
      exact ⟨_, q3, t3, rfl, by show (f.2.set _ _).length ≤ 4; rw [List.length_set]; omega, p3⟩
    · rw [if_neg (by simpa using c1)]
      by_cases c2 : v2 = 2
      · rw [if_pos (decide_eq_true c2), app_eq _ _ (by simp; omega)]
        exact ⟨_, q2, t2, rfl, by show (f.2 ++ [1]).length ≤ 4; simp; omega, p2⟩
      · rw [if_neg (by simpa using c2)]
        exact ⟨_, q2, t2, rfl, by show f.2.length ≤ 4; omega, p2⟩
theorem anyFacts_ok (a : Code) (p s : Int) (sc : List Int) (ha : a.length ≤ 1048576) (hp : Pos a p) (hs : schOk sc = true) :
    ∃ (l : List Fa) (q t : Int), S.l2AnyFacts (a, p, s) sc = some (l, (a, q, t)) ∧ l.length ≤ 9 ∧ (∀ f ∈ l, f.2.length ≤ 4) ∧ Pos a q := by
  have hl := sch_len hs
  obtain ⟨l, q1, t1, e1, h0, h1, hf, p1⟩ := facts_ok a p s sc 8 ha hp hs ⟨by omega, by omega⟩
  obtain ⟨b, q2, t2, e2, p2⟩ := once_ok a q1 t1 10 ha p1 (by omega) (by omega)
  unfold S.l2AnyFacts
  rw [IsSchema_S sc (by omega), hs, Option.bind_some, if_pos rfl, e1, Option.bind_some, Option.bind_some]
  simp only
  rw [e2, Option.bind_some]
  simp only
  cases b
  · exact ⟨l, q2, t2, rfl, by omega, fun f h => by have := hf f h; omega, p2⟩
  · obtain ⟨f, q3, t3, e3, h3, p3⟩ := anyFact_ok a q2 t2 sc ha p2 hs
    rw [if_pos rfl, e3, Option.bind_some, app_eq _ _ (by simp; omega)]
    refine ⟨_, q3, t3, rfl, by simp; omega, fun g hg => ?_, p3⟩
    rcases List.mem_append.1 hg with hg | hg
    · have := hf g hg; omega
    · rw [List.mem_singleton] at hg; subst hg; exact h3
theorem method_loop (a : Code) (ha : a.length ≤ 1048576) (sc : List Int) (c : Code × Int × Int) (hc : c.1 = a) (r : Nat) (hr : r < sc.length) (ar : Nat) (har : sc[r] = (ar : Int)) (h3 : ar ≤ 3) (x y z : Int) :
    ∀ (n K : Nat) (p s : Int) (l : List Int) (i : Nat), i + n = ar → l.length ≤ i → n < K → Pos a p → ∃ q t m, S.l5Method_l1 sc c K (r : Int) l x y z p s (i : Int) = some ((r : Int), m, x, y, z, q, t) ∧ m.length ≤ 3 ∧ Pos a q := by
  intro n
  induction n with
  | zero =>
    intro K p s l i h1 h2 hK hp
    obtain ⟨K, rfl⟩ : ∃ k, K = k + 1 := ⟨K - 1, by omega⟩
    rw [S.l5Method_l1, idx_nat sc hr, Option.bind_some, if_neg (by rw [har]; simp; omega)]
    exact ⟨p, s, l, rfl, by omega, hp⟩
  | succ n ih =>
    intro K p s l i h1 h2 hK hp
    obtain ⟨K, rfl⟩ : ∃ k, K = k + 1 := ⟨K - 1, by omega⟩
    obtain ⟨b, q1, t1, e1, p1⟩ := once_ok a p s 3 ha hp (by omega) (by omega)
    rw [S.l5Method_l1, idx_nat sc hr, Option.bind_some, if_pos (by rw [har]; exact decide_eq_true (by omega)), hc, e1, Option.bind_some, w64_succ (by omega)]
    simp only
    cases b
    · exact ih K q1 t1 l (i + 1) (by omega) (by omega) (by omega) p1
    · rw [if_pos rfl, app_eq l _ (by simp; omega)]
      exact ih K q1 t1 (l ++ [(i : Int)]) (i + 1) (by omega) (by simp; omega) (by omega) p1
theorem method_ok (a : Code) (p s : Int) (sc : List Int) (ha : a.length ≤ 1048576) (hp : Pos a p) (hs : schOk sc = true) :
    ∃ (f : Mf) (q t : Int), S.l5Method (a, p, s) sc = some (f, (a, q, t)) ∧ f.2.1.length ≤ 3 ∧ Pos a q := by
  have hl := sch_len hs
  obtain ⟨v1, q1, t1, e1, h0, h1, p1⟩ := below_ok a p s (sc.length : Int) ha hp (by omega) (by omega)
  obtain ⟨v2, q2, t2, e2, -, p2⟩ := pick_ok a q1 t1 [0, 0, 0, 1, 2] ha p1 (by simp) (by simp)
  obtain ⟨v3, q3, t3, e3, -, -, p3⟩ := below_ok a q2 t2 5 ha p2 (by omega) (by omega)
  obtain ⟨v4, q4, t4, e4, -, -, p4⟩ := below_ok a q3 t3 6 ha p3 (by omega) (by omega)
  obtain ⟨r, rfl⟩ : ∃ r : Nat, v1 = r := ⟨v1.toNat, by omega⟩
  have hr : r < sc.length := by omega
  have har := sch_arity hs hr
  obtain ⟨ar, har2⟩ : ∃ n : Nat, sc[r] = (n : Int) := ⟨(sc[r]).toNat, by omega⟩
  obtain ⟨q5, t5, m, e5, hm, p5⟩ := method_loop a ha sc (a, p, s) rfl r hr ar har2 (by omega) v2 v3 (w64 (1 + v4)) ar FUEL q4 t4 [] 0 (by omega) (by simp) (by rw [FUEL_eq]; omega) p4
  have e5' : S.l5Method_l1 sc (a, p, s) FUEL (r : Int) [] v2 v3 (w64 (1 + v4)) q4 t4 0 = some ((r : Int), m, v2, v3, w64 (1 + v4), q5, t5) := e5
  unfold S.l5Method
  rw [e1, Option.bind_some]
  simp only
  rw [e2, Option.bind_some]
  simp only
  rw [e3, Option.bind_some]
  simp only
  rw [e4, Option.bind_some]
  simp only
  rw [e5']
  exact ⟨((r : Int), m, v2, v3, w64 (1 + v4)), q5, t5, rfl, hm, p5⟩
theorem methods_loop (a : Code) (ha : a.length ≤ 1048576) (sc : List Int) (hs : schOk sc = true) (c : Code × Int × Int) (hc : c.1 = a) : ∀ (n K : Nat) (p s : Int) (l : List Mf), n < K → l.length + n ≤ 100 → (∀ m ∈ l, m.2.1.length ≤ 100) → Pos a p → ∃ q t m, S.l5Methods_l1 c sc K p s l (n : Int) = some (q, t, m) ∧ m.length = l.length + n ∧ (∀ x ∈ m, x.2.1.length ≤ 100) ∧ Pos a q := by
  intro n
  induction n with
  | zero =>
    intro K p s l hK hl hm hp
    obtain ⟨K, rfl⟩ : ∃ k, K = k + 1 := ⟨K - 1, by omega⟩
    rw [S.l5Methods_l1, if_neg (by simp)]
    exact ⟨_, _, _, rfl, by omega, hm, hp⟩
  | succ n ih =>
    intro K p s l hK hl hm hp
    obtain ⟨K, rfl⟩ : ∃ k, K = k + 1 := ⟨K - 1, by omega⟩
    obtain ⟨f, q1, t1, e1, h1, p1⟩ := method_ok a p s sc ha hp hs
    rw [S.l5Methods_l1, if_pos (decide_eq_true (by omega)), hc, e1, Option.bind_some, app_eq _ _ (by simp; omega), Option.bind_some, w64_down n (by omega)]
    obtain ⟨q, t, m, g1, g2, g3, g4⟩ := ih K q1 t1 (l ++ [f]) (by omega) (by simp; omega) (fun y hy => by
      rcases List.mem_append.1 hy with hy | hy
      · exact hm y hy
      · rw [List.mem_singleton] at hy; subst hy; omega) p1
    exact ⟨q, t, m, g1, by rw [g2]; simp; omega, g3, g4⟩
theorem methods_ok (a : Code) (p s : Int) (sc : List Int) (ha : a.length ≤ 1048576) (hp : Pos a p) (hs : schOk sc = true) :
    ∃ (l : List Mf) (q t : Int), S.l5Methods (a, p, s) sc = some (l, (a, q, t)) ∧ l.length ≤ 4 ∧ (∀ m ∈ l, m.2.1.length ≤ 100) ∧ Pos a q := by
  obtain ⟨v1, q1, t1, e1, h0, h1, p1⟩ := below_ok a p s 4 ha hp (by omega) (by omega)
  obtain ⟨n, rfl⟩ : ∃ n : Nat, v1 = n := ⟨v1.toNat, by omega⟩
  obtain ⟨q2, t2, m, e2, hl, hm, p2⟩ := methods_loop a ha sc hs (a, p, s) rfl (n + 1) FUEL q1 t1 [] (by rw [FUEL_eq]; omega) (by simp; omega) (fun x hx => by cases hx) p1
  have e3 : w64 (1 + (n : Int)) = ((n + 1 : Nat) : Int) := by rw [w64_sm (by omega) (by omega)]; omega
  unfold S.l5Methods
  rw [e1, Option.bind_some]
  simp only
  rw [e3, e2]
  exact ⟨m, q2, t2, rfl, by simp at hl; omega, hm, p2⟩
theorem anyMethod_ok (a : Code) (p s : Int) (sc : List Int) (ha : a.length ≤ 1048576) (hp : Pos a p) (hs : schOk sc = true) :
    ∃ (f : Mf) (q t : Int), S.l5AnyMethod (a, p, s) sc = some (f, (a, q, t)) ∧ f.2.1.length ≤ 100 ∧ Pos a q := by
  have hl := sch_len hs
  obtain ⟨f, q1, t1, e1, h1, p1⟩ := method_ok a p s sc ha hp hs
  obtain ⟨v2, q2, t2, e2, -, -, p2⟩ := below_ok a q1 t1 10 ha p1 (by omega) (by omega)
  unfold S.l5AnyMethod
  rw [IsSchema_S sc (by omega), hs, Option.bind_some, if_pos rfl, e1, Option.bind_some, Option.bind_some]
  simp only
  rw [e2, Option.bind_some]
  simp only
  by_cases c0 : v2 = 0
  · obtain ⟨v3, q3, t3, e3, -, p3⟩ := pick_ok a q2 t2 [-1, 9, 10] ha p2 (by simp) (by simp)
    rw [if_pos (decide_eq_true c0), e3]
    exact ⟨_, q3, t3, rfl, by show f.2.1.length ≤ 100; omega, p3⟩
  · rw [if_neg (by simpa using c0)]
    by_cases c1 : v2 = 1
    · obtain ⟨v3, q3, t3, e3, -, -, p3⟩ := below_ok a q2 t2 5 ha p2 (by omega) (by omega)
      rw [if_pos (decide_eq_true c1), e3, Option.bind_some, app_eq _ _ (by simp; omega)]
      exact ⟨_, q3, t3, rfl, by show (f.2.1 ++ [_]).length ≤ 100; simp; omega, p3⟩
    · rw [if_neg (by simpa using c1)]
      by_cases c2 : v2 = 2
      · obtain ⟨v3, q3, t3, e3, -, p3⟩ := pick_ok a q2 t2 [0, 99, 100] ha p2 (by simp) (by simp)
        rw [if_pos (decide_eq_true c2), e3]
        exact ⟨_, q3, t3, rfl, by show f.2.1.length ≤ 100; omega, p3⟩
      · rw [if_neg (by simpa using c2)]
        by_cases c3 : v2 = 3
        · obtain ⟨v3, q3, t3, e3, -, p3⟩ := pick_ok a q2 t2 [-1, 99, 100] ha p2 (by simp) (by simp)
          rw [if_pos (decide_eq_true c3), e3]
          exact ⟨_, q3, t3, rfl, by show f.2.1.length ≤ 100; omega, p3⟩
        · rw [if_neg (by simpa using c3)]
          exact ⟨_, q2, t2, rfl, by show f.2.1.length ≤ 100; omega, p2⟩
theorem draw5_ok (a : Code) (p s : Int) (ha : a.length ≤ 1048576) (hp : Pos a p) :
    ∃ (sc : List Int) (l : List Mf) (f : List Fa) (q t : Int), S.l5Draw (a, p, s) = some (sc, l, f, (a, q, t)) ∧ l.length ≤ 5 ∧ (∀ m ∈ l, m.2.1.length ≤ 100) ∧ Pos a q := by
  obtain ⟨sc, q1, t1, e1, hs, -, p1⟩ := schema_ok a p s ha hp
  obtain ⟨l, q2, t2, e2, hl, hm, p2⟩ := methods_ok a q1 t1 sc ha p1 hs
  obtain ⟨f, q3, t3, e3, -, -, -, p3⟩ := facts_ok a q2 t2 sc 8 ha p2 hs ⟨by omega, by omega⟩
  obtain ⟨v4, q4, t4, e4, -, -, p4⟩ := below_ok a q3 t3 20 ha p3 (by omega) (by omega)
  unfold S.l5Draw
  rw [e1, Option.bind_some]
  simp only
  rw [e2, Option.bind_some]
  simp only
  rw [e3, Option.bind_some]
  simp only
  rw [e4, Option.bind_some]
  simp only
  by_cases c0 : v4 = 0
  · obtain ⟨g, q5, t5, e5, hg, p5⟩ := anyMethod_ok a q4 t4 sc ha p4 hs
    rw [if_pos (decide_eq_true c0), e5, Option.bind_some, app_eq _ _ (by simp; omega)]
    refine ⟨sc, _, f, q5, t5, rfl, by simp; omega, fun m hmm => ?_, p5⟩
    rcases List.mem_append.1 hmm with hmm | hmm
    · exact hm m hmm
    · rw [List.mem_singleton] at hmm; subst hmm; exact hg
  · rw [if_neg (by simpa using c0)]
    by_cases c1 : v4 = 1
    · obtain ⟨g, q5, t5, e5, -, -, p5⟩ := anyFacts_ok a q4 t4 sc ha p4 hs
      rw [if_pos (decide_eq_true c1), e5]
      exact ⟨sc, l, g, q5, t5, rfl, by omega, hm, p5⟩
    · rw [if_neg (by simpa using c1)]
      by_cases c2 : v4 = 2
      · obtain ⟨g, q5, t5, e5, p5⟩ := anySchema_ok a q4 t4 ha p4
        rw [if_pos (decide_eq_true c2), e5]
        exact ⟨g, l, f, q5, t5, rfl, by omega, hm, p5⟩
      · rw [if_neg (by simpa using c2)]
        exact ⟨sc, l, f, q4, t4, rfl, by omega, hm, p4⟩
theorem access_loop (a : Code) (ha : a.length ≤ 1048576) (l : List Mf) (c : Code × Int × Int) (hc : c.1 = a) (r : Nat) (hr : r < l.length) (hn : l[r].2.1.length ≤ 100) :
    ∀ (n K : Nat) (p s : Int) (v : List Int) (i : Nat), i + n = l[r].2.1.length → v.length = i → n < K → Pos a p → ∃ q t m, S.l5Access_l1 l c K (r : Int) v p s (i : Int) = some ((r : Int), m, q, t) ∧ m.length ≤ 100 ∧ Pos a q := by
  intro n
  induction n with
  | zero =>
    intro K p s v i h1 h2 hK hp
    obtain ⟨K, rfl⟩ : ∃ k, K = k + 1 := ⟨K - 1, by omega⟩
    rw [S.l5Access_l1, idx_nat l hr, Option.bind_some, if_neg (by simp; omega)]
    exact ⟨_, _, _, rfl, by omega, hp⟩
  | succ n ih =>
    intro K p s v i h1 h2 hK hp
    obtain ⟨K, rfl⟩ : ∃ k, K = k + 1 := ⟨K - 1, by omega⟩
    obtain ⟨v1, q1, t1, e1, -, -, p1⟩ := below_ok a p s 4 ha hp (by omega) (by omega)
    rw [S.l5Access_l1, idx_nat l hr, Option.bind_some, if_pos (decide_eq_true (by omega)), hc, e1, Option.bind_some, app_eq _ _ (by simp; omega), Option.bind_some, w64_succ (by omega)]
    exact ih K q1 t1 _ (i + 1) (by omega) (by simp; omega) (by omega) p1
theorem access_ok (a : Code) (p s : Int) (l : List Mf) (ha : a.length ≤ 1048576) (hp : Pos a p) (hl : l.length ≤ 5) (hm : ∀ m ∈ l, m.2.1.length ≤ 100) :
    ∃ (f : Fa) (q t : Int), S.l5Access (a, p, s) l = some (f, (a, q, t)) ∧ f.2.length ≤ 100 ∧ Pos a q := by
  unfold S.l5Access
  by_cases c0 : (l.length : Int) = 0
  · rw [if_pos (decide_eq_true c0)]
    exact ⟨(0, []), p, s, rfl, by simp, hp⟩
  · obtain ⟨v1, q1, t1, e1, h0, h1, p1⟩ := below_ok a p s (l.length : Int) ha hp (by omega) (by omega)
    obtain ⟨r, rfl⟩ : ∃ r : Nat, v1 = r := ⟨v1.toNat, by omega⟩
    have hr : r < l.length := by omega
    obtain ⟨q2, t2, m, e2, hml, p2⟩ := access_loop a ha l (a, p, s) rfl r hr (hm _ (List.getElem_mem hr)) l[r].2.1.length FUEL q1 t1 [] 0 (by omega) rfl (by have := hm _ (List.getElem_mem hr); rw [FUEL_eq]; omega) p1
    have e2' : S.l5Access_l1 l (a, p, s) FUEL (r : Int) [] q1 t1 0 = some ((r : Int), m, q2, t2) := e2
    rw [if_neg (by simpa using c0), e1, Option.bind_some]
    simp only
    rw [e2']
    exact ⟨((r : Int), m), q2, t2, rfl, hml, p2⟩
theorem anyAccess_ok (a : Code) (p s : Int) (l : List Mf) (ha : a.length ≤ 1048576) (hp : Pos a p) (hl : l.length ≤ 5) (hm : ∀ m ∈ l, m.2.1.length ≤ 100) :
    ∃ (f : Fa) (q t : Int), S.l5AnyAccess (a, p, s) l = some (f, (a, q, t)) ∧ f.2.length ≤ 101 ∧ Pos a q := by
  obtain ⟨f, q1, t1, e1, h1, p1⟩ := access_ok a p s l ha hp hl hm
  obtain ⟨v2, q2, t2, e2, -, -, p2⟩ := below_ok a q1 t1 12 ha p1 (by omega) (by omega)
  unfold S.l5AnyAccess
  rw [e1, Option.bind_some]
  simp only
  rw [e2, Option.bind_some]
  simp only
  by_cases c0 : v2 = 0
  · obtain ⟨v3, q3, t3, e3, -, -, p3⟩ := below_ok a q2 t2 7 ha p2 (by omega) (by omega)
    rw [if_pos (decide_eq_true c0), e3]
    exact ⟨_, q3, t3, rfl, by show f.2.length ≤ 101; omega, p3⟩
  · rw [if_neg (by simpa using c0)]
    by_cases c1 : v2 = 1
    · obtain ⟨v3, q3, t3, e3, -, p3⟩ := pick_ok a q2 t2 [-1, 3, 10] ha p2 (by simp) (by simp)
      rw [if_pos (decide_eq_true c1), e3, Option.bind_some, app_eq _ _ (by simp; omega)]
      exact ⟨_, q3, t3, rfl, by show (f.2 ++ [v3]).length ≤ 101; simp; omega, p3⟩
    · rw [if_neg (by simpa using c1)]
      exact ⟨_, q2, t2, rfl, by show f.2.length ≤ 101; omega, p2⟩
theorem access26_ok (a : Code) (p s : Int) (ha : a.length ≤ 1048576) (hp : Pos a p) :
    ∃ (f : Fa) (q t : Int), S.l26Access (a, p, s) = some (f, (a, q, t)) ∧ f.2.length ≤ 101 ∧ Pos a q := by
  obtain ⟨sc, l, g, q1, t1, e1, hl, hm, p1⟩ := draw5_ok a p s ha hp
  obtain ⟨f, q2, t2, e2, hf, p2⟩ := anyAccess_ok a q1 t1 l ha p1 hl hm
  unfold S.l26Access
  rw [e1, Option.bind_some]
  simp only
  rw [e2]
  exact ⟨f, q2, t2, rfl, hf, p2⟩
end Go.Gx.Px
