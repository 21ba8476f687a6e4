/- Plain laws: ledgers and calls that are drawn. Conditions: none. -/
import Derived.Test.YtnjjpmilcajmkaaPdr
import Derived.Test.YtnjjpmilcajmkaaPt
set_option linter.unusedVariables false
set_option linter.unusedSimpArgs false
namespace Go.Gx.Px
theorem rc_len (x : Le) (key cost : Int) : (rc x key cost).1.1.length ≤ x.1.length + 1 := by
  unfold rc
  split
  · unfold recv
    split
    · simp only; omega
    · exact putI_len _ _
  · simp only; omega
theorem rc_calls (x : Le) (key cost : Int) : (rc x key cost).1.2.2 = x.2.2 ∨ (rc x key cost).1.2.2 = x.2.2 + 1 := by
  unfold rc
  split
  · right; unfold recv; split <;> rfl
  · left; rfl
theorem ledger_loop (a : Code) (ha : a.length ≤ 1048576) (c : Code × Int × Int) (hc : c.1 = a) : ∀ (n K : Nat) (p s : Int) (l : List Int) (u v : Int), n < K → l.length + n ≤ 100 → 0 ≤ v → v + n ≤ 100 → Pos a p → ∃ q t m u' v', S.l27Ledger_l1 c K p s l u v (n : Int) = some (q, t, m, u', v') ∧ m.length ≤ 100 ∧ Pos a q ∧ 0 ≤ v' ∧ v' ≤ 100 := by
  intro n
  induction n with
  | zero =>
    intro K p s l u v hK hl hv0 hv1 hp
    obtain ⟨K, rfl⟩ : ∃ k, K = k + 1 := ⟨K - 1, by omega⟩
    rw [S.l27Ledger_l1, if_neg (by simp)]
    exact ⟨_, _, _, _, _, rfl, by omega, hp, by omega, by omega⟩
  | succ n ih =>
    intro K p s l u v hK hl hv0 hv1 hp
    obtain ⟨K, rfl⟩ : ∃ k, K = k + 1 := ⟨K - 1, by omega⟩
    obtain ⟨v1, q1, t1, e1, -, -, p1⟩ := below_ok a p s 8 ha hp (by omega) (by omega)
    obtain ⟨v2, q2, t2, e2, -, -, p2⟩ := below_ok a q1 t1 5 ha p1 (by omega) (by omega)
    have hlen := rc_len (l, u, v) v1 v2
    have hcal := rc_calls (l, u, v) v1 v2
    rw [S.l27Ledger_l1, if_pos (decide_eq_true (by omega)), hc, e1, Option.bind_some]
    simp only
    rw [e2, Option.bind_some]
    simp only
    rw [ReceiveCall_S (l, u, v) v1 v2 (show l.length ≤ 1048576 by omega), Option.bind_some, Option.bind_some]
    simp only
    have e3 : w64 (((n + 1 : Nat) : Int) - 1) = (n : Int) := by rw [w64_sm (by omega) (by omega)]; omega
    rw [e3]
    simp only at hlen hcal
    exact ih K q2 t2 _ _ _ (by omega) (by omega) (by omega) (by omega) p2
theorem ledger_ok (a : Code) (p s : Int) (ha : a.length ≤ 1048576) (hp : Pos a p) : ∃ (x : Le) (q t : Int), S.l27Ledger (a, p, s) = some (x, (a, q, t)) ∧ x.1.length ≤ 101 ∧ Pos a q ∧ 0 ≤ x.2.2 ∧ x.2.2 ≤ 100 := by
  obtain ⟨v1, q1, t1, e1, h0, h5, p1⟩ := below_ok a p s 5 ha hp (by omega) (by omega)
  obtain ⟨n, rfl⟩ : ∃ n : Nat, v1 = n := ⟨v1.toNat, by omega⟩
  obtain ⟨q2, t2, m, u, v, e2, hm, p2, hv0, hv1⟩ := ledger_loop a ha (a, p, s) rfl n FUEL q1 t1 [] 0 0 (by rw [FUEL_eq]; omega) (by simp; omega) (by omega) (by omega) p1
  obtain ⟨v3, q3, t3, e3, -, -, p3⟩ := below_ok a q2 t2 12 ha p2 (by omega) (by omega)
  unfold S.l27Ledger
  rw [e1, Option.bind_some]
  simp only
  rw [e2, Option.bind_some]
  simp only
  rw [e3, Option.bind_some]
  simp only
  by_cases h1 : v3 = 0
  · obtain ⟨v4, q4, t4, e4, -, -, p4⟩ := below_ok a q3 t3 4 ha p3 (by omega) (by omega)
    rw [if_pos (by simpa using h1), e4, Option.bind_some, app_eq _ _ (by simp; omega)]
    exact ⟨(m ++ [v4], u, v), q4, t4, rfl, by simp; omega, p4, hv0, hv1⟩
  · rw [if_neg (by simpa using h1)]
    by_cases h2 : v3 = 1
    · obtain ⟨v4, q4, t4, e4, -, p4⟩ := pick_ok a q3 t3 [-1, 999998000, 999998001, 1000000000] ha p3 (by simp) (by simp)
      rw [if_pos (by simpa using h2), e4]
      exact ⟨(m, v4, v), q4, t4, rfl, by simp; omega, p4, hv0, hv1⟩
    · rw [if_neg (by simpa using h2)]
      exact ⟨(m, u, v), q3, t3, rfl, by simp; omega, p3, hv0, hv1⟩
theorem call_ok (a : Code) (p s : Int) (ha : a.length ≤ 1048576) (hp : Pos a p) : ∃ (x : Ca) (q t : Int), S.l27Call (a, p, s) = some (x, (a, q, t)) ∧ Pos a q ∧ x.2.2.1 = 0 := by
  obtain ⟨v1, q1, t1, e1, -, -, p1⟩ := below_ok a p s 8 ha hp (by omega) (by omega)
  obtain ⟨v2, q2, t2, e2, -, -, p2⟩ := below_ok a q1 t1 5 ha p1 (by omega) (by omega)
  obtain ⟨v3, q3, t3, e3, -, -, p3⟩ := below_ok a q2 t2 12 ha p2 (by omega) (by omega)
  unfold S.l27Call
  rw [e1, Option.bind_some]
  simp only
  rw [e2, Option.bind_some]
  simp only
  rw [e3, Option.bind_some]
  simp only
  by_cases h1 : v3 = 0
  · obtain ⟨v4, q4, t4, e4, -, p4⟩ := pick_ok a q3 t3 [-1, 1000000, 1000001] ha p3 (by simp) (by simp)
    rw [if_pos (by simpa using h1), e4]
    exact ⟨_, _, _, rfl, p4, rfl⟩
  · rw [if_neg (by simpa using h1)]
    by_cases h2 : v3 = 1
    · rw [if_pos (by simpa using h2)]
      exact ⟨_, _, _, rfl, p3, rfl⟩
    · rw [if_neg (by simpa using h2)]
      by_cases h3 : v3 = 2
      · obtain ⟨v4, q4, t4, e4, -, p4⟩ := pick_ok a q3 t3 [-1, 99, 100] ha p3 (by simp) (by simp)
        rw [if_pos (by simpa using h3), e4]
        exact ⟨_, _, _, rfl, p4, rfl⟩
      · rw [if_neg (by simpa using h3)]
        exact ⟨_, _, _, rfl, p3, rfl⟩
theorem sameInts_refl (l : List Int) (h : l.length ≤ 1048576) : Q.sameInts l l = some true := by
  unfold Q.sameInts
  rw [if_neg (by simp), eq_loop (Q.sameInts_l1 l l) l.length (by omega) (fun k => by rw [Q.sameInts_l1, if_neg (by simp)]) (fun k i hi => by
    rw [Q.sameInts_l1, if_pos (by simpa using hi), idx_nat l hi]; simp [w64_succ (show i < 4611686018427387904 by omega)])]
  rfl
theorem has_Q (l : List Int) (x : Int) (h : l.length ≤ 1048576) : Q.has l x = some (hasI l x) := by
  unfold Q.has hasI
  rw [any_loop (Q.has_l1 l x) l (fun e => decide (e = x)) true (by omega) (fun k => by rw [Q.has_l1, if_neg (by simp)]) (fun k i hi => by
    rw [Q.has_l1, if_pos (by simpa using hi), idx_nat l hi, Option.bind_some, w64_succ (by omega)])]
  cases l.any fun e => decide (e = x) <;> rfl
theorem has_put (l : List Int) (x : Int) : hasI (putI l x) x = true := by
  unfold putI
  split
  · assumption
  · unfold hasI; simp
theorem recv_has {z : Le} {key cost : Int} (h : hasI z.1 key = true) : recv z key cost = (z.1, z.2.1, z.2.2 + 1) := by
  unfold recv; rw [if_pos h]
end Go.Gx.Px
