/- Plain laws: calls that are finished: the law. Conditions: none. -/
import Derived.Test.YtnjjpmilcajmkaaPdl2
import Derived.Test.YtnjjpmilcajmkaaPv
set_option linter.unusedVariables false
set_option linter.unusedSimpArgs false
namespace Go.Gx.Px
theorem fates_loop (a : Code) (ha : a.length ≤ 1048576) (c : Code × Int × Int) (hc : c.1 = a) : ∀ (n K : Nat) (p s : Int) (l : List Int), n < K → l.length + n ≤ 100 → Pos a p → ∃ q t m, S.l27Fates_l1 c K p s l (n : Int) = some (q, t, m) ∧ m.length ≤ 100 ∧ Pos a q := by
  intro n
  induction n with
  | zero =>
    intro K p s l hK hl hp
    obtain ⟨K, rfl⟩ : ∃ k, K = k + 1 := ⟨K - 1, by omega⟩
    rw [S.l27Fates_l1, if_neg (by simp)]
    exact ⟨_, _, _, rfl, by omega, hp⟩
  | succ n ih =>
    intro K p s l hK hl hp
    obtain ⟨K, rfl⟩ : ∃ k, K = k + 1 := ⟨K - 1, by omega⟩
    obtain ⟨v1, q1, t1, e1, -, -, p1⟩ := below_ok a p s 5 ha hp (by omega) (by omega)
    have e3 : w64 (((n + 1 : Nat) : Int) - 1) = (n : Int) := by rw [w64_sm (by omega) (by omega)]; omega
    rw [S.l27Fates_l1, if_pos (decide_eq_true (by omega)), hc, e1, Option.bind_some, app_eq _ _ (by simp; omega), Option.bind_some, e3]
    exact ih K q1 t1 _ (by omega) (by simp; omega) p1
theorem fates_ok (a : Code) (p s : Int) (ha : a.length ≤ 1048576) (hp : Pos a p) : ∃ (f : List Int) (q t : Int), S.l27Fates (a, p, s) = some (f, (a, q, t)) ∧ f.length ≤ 100 ∧ Pos a q := by
  obtain ⟨v1, q1, t1, e1, h0, h5, p1⟩ := below_ok a p s 7 ha hp (by omega) (by omega)
  obtain ⟨n, rfl⟩ : ∃ n : Nat, v1 = n := ⟨v1.toNat, by omega⟩
  obtain ⟨q2, t2, m, e2, hm, p2⟩ := fates_loop a ha (a, p, s) rfl n FUEL q1 t1 [] (by rw [FUEL_eq]; omega) (by simp; omega) p1
  unfold S.l27Fates
  rw [e1, Option.bind_some]
  simp only
  rw [e2]
  exact ⟨m, q2, t2, rfl, hm, p2⟩
theorem drawFinish_ok (a : Code) (ha : a.length ≤ 1048576) : ∃ (x : Le) (c : Ca) (f : List Int), S.DrawFinishCall a = some (x, c, f) ∧ x.1.length ≤ 101 ∧ f.length ≤ 100 ∧ x.2.2 ≤ 100 ∧ c.2.2.1 = 0 := by
  obtain ⟨t, e0⟩ := new_ok a ha
  obtain ⟨x, q1, t1, e1, hx, p1, hv⟩ := ledger_ok a 0 t ha ⟨by omega, by omega⟩
  obtain ⟨c, q2, t2, e2, p2, hc0⟩ := call_ok a q1 t1 ha p1
  obtain ⟨f, q3, t3, e3, hf, p3⟩ := fates_ok a q2 t2 ha p2
  unfold S.DrawFinishCall
  rw [e0, Option.bind_some]
  simp only
  rw [e1, Option.bind_some]
  simp only
  rw [e2, Option.bind_some]
  simp only
  rw [e3]
  exact ⟨x, c, f, rfl, hx, hf, hv.2, hc0⟩
theorem calls_loop (a : Code) (ha : a.length ≤ 1048576) : ∀ (n K : Nat) (p s : Int) (l : List Ca), n < K → l.length + n ≤ 100 → Pos a p → ∃ q t m, S.DrawRunCalls_l1 a K p s l (n : Int) = some (q, t, m) ∧ m.length ≤ 100 ∧ Pos a q := by
  intro n
  induction n with
  | zero =>
    intro K p s l hK hl hp
    obtain ⟨K, rfl⟩ : ∃ k, K = k + 1 := ⟨K - 1, by omega⟩
    rw [S.DrawRunCalls_l1, if_neg (by simp)]
    exact ⟨_, _, _, rfl, by omega, hp⟩
  | succ n ih =>
    intro K p s l hK hl hp
    obtain ⟨K, rfl⟩ : ∃ k, K = k + 1 := ⟨K - 1, by omega⟩
    obtain ⟨c, q1, t1, e1, p1, -⟩ := call_ok a p s ha hp
    have e3 : w64 (((n + 1 : Nat) : Int) - 1) = (n : Int) := by rw [w64_sm (by omega) (by omega)]; omega
    rw [S.DrawRunCalls_l1, if_pos (decide_eq_true (by omega)), e1, Option.bind_some, app_eq _ _ (by simp; omega), Option.bind_some, e3]
    exact ih K q1 t1 _ (by omega) (by simp; omega) p1
theorem drawRun_ok (a : Code) (ha : a.length ≤ 1048576) : ∃ (x : Le) (l : List Ca) (f : List Int), S.DrawRunCalls a = some (x, l, f) ∧ x.1.length ≤ 101 ∧ l.length ≤ 100 ∧ f.length ≤ 200 := by
  obtain ⟨t, e0⟩ := new_ok a ha
  obtain ⟨x, q1, t1, e1, hx, p1, hv⟩ := ledger_ok a 0 t ha ⟨by omega, by omega⟩
  obtain ⟨v2, q2, t2, e2, h0, h4, p2⟩ := below_ok a q1 t1 4 ha p1 (by omega) (by omega)
  obtain ⟨n, rfl⟩ : ∃ n : Nat, v2 = n := ⟨v2.toNat, by omega⟩
  obtain ⟨q3, t3, l, e3, hl, p3⟩ := calls_loop a ha n FUEL q2 t2 [] (by rw [FUEL_eq]; omega) (by simp; omega) p2
  obtain ⟨f, q4, t4, e4, hf, p4⟩ := fates_ok a q3 t3 ha p3
  obtain ⟨g, q5, t5, e5, hg, p5⟩ := fates_ok a q4 t4 ha p4
  unfold S.DrawRunCalls
  rw [e0, Option.bind_some]
  simp only
  rw [e1, Option.bind_some]
  simp only
  rw [e2, Option.bind_some]
  simp only
  rw [e3, Option.bind_some]
  simp only
  rw [e4, Option.bind_some]
  simp only
  rw [e5, Option.bind_some, app_eq f g (by omega)]
  exact ⟨x, l, f ++ g, rfl, hx, hl, by rw [List.length_append]; omega⟩
/-! the meaning of a call that is finished -/
def paid (x : Le) (key cost : Int) (y : Le) : Prop := ledOk y = true ∧ y.2.1 = x.2.1 + (if hasI y.1 key = true ∧ hasI x.1 key = false then cost else 0) ∧ (hasI x.1 key = true → hasI y.1 key = true)
theorem recv_hasI (y : Le) (key cost : Int) : hasI (recv y key cost).1 key = true := by
  unfold recv
  cases h : hasI y.1 key
  · simp only [Bool.false_eq_true, if_false]; exact has_put _ _
  · simp only [if_true]; exact h
theorem paid_recv {x y : Le} {key cost : Int} (h : paid x key cost y) (hk : 0 ≤ key ∧ key ≤ 1000000) (hc : 0 ≤ cost ∧ cost ≤ 99) (h1 : y.2.1 ≤ 999999000) (h2 : y.2.2 ≤ 999999000) : paid x key cost (recv y key cost) := by
  obtain ⟨g1, g2, g3⟩ := h
  obtain ⟨r1, -, -⟩ := recv_ok (key := key) (cost := cost) g1 hk hc h1 h2
  refine ⟨r1, ?_, fun _ => recv_hasI y key cost⟩
  rw [recv_hasI]
  unfold recv
  cases hy : hasI y.1 key
  · have hx : hasI x.1 key = false := by
      cases hx : hasI x.1 key
      · rfl
      · rw [g3 hx] at hy; cases hy
    rw [hy, hx] at g2
    simp only [Bool.false_eq_true, if_false, hx, and_self, if_true]
    simp at g2
    omega
  · rw [hy] at g2
    simp only [if_true]
    simpa using g2
def Inv (x : Le) (key cost : Int) (j : Nat) (s : Le × Ca) : Prop := paid x key cost s.1 ∧ s.1.2.2 ≤ x.2.2 + 2 * j ∧ s.2.1 = key ∧ s.2.2.1 = cost ∧ 0 ≤ s.2.2.2.1 ∧ s.2.2.2.1 ≤ j ∧ (s.2.2.2.2 = true → hasI s.1.1 key = true)
theorem charge_le {x y : Le} {key cost : Int} (h : paid x key cost y) (hc : 0 ≤ cost ∧ cost ≤ 99) (hx : x.2.1 < 900000000) : y.2.1 ≤ 900000099 := by
  obtain ⟨-, g2, -⟩ := h
  split at g2 <;> omega
theorem tcOk_of {x : Le} {key cost : Int} {j : Nat} {s : Le × Ca} (h : Inv x key cost j s) (hj : j ≤ 900) (hk : 0 ≤ key ∧ key ≤ 1000000) (hc : 0 ≤ cost ∧ cost ≤ 99) (hx : x.2.1 < 900000000) (hv : x.2.2 ≤ 100) (ha : s.2.2.2.2 = false) : tcOk s.1 s.2 = true := by
  obtain ⟨h1, h2, h3, h4, h5, h6, h7⟩ := h
  have h8 := charge_le h1 hc hx
  unfold tcOk
  rw [h1.1, h3, h4, ha, inR_iff.2 hk, inR_iff.2 hc, inR_iff.2 (show 0 ≤ s.2.2.2.1 ∧ s.2.2.2.1 ≤ 1000 by omega), decide_eq_false (show ¬ 999998000 < s.1.2.1 by omega), decide_eq_false (show ¬ 999998000 < s.1.2.2 by omega)]
  rfl
theorem inv_step {x : Le} {key cost : Int} {j : Nat} {s : Le × Ca} (h : Inv x key cost j s) (hj : j ≤ 900) (hk : 0 ≤ key ∧ key ≤ 1000000) (hc : 0 ≤ cost ∧ cost ≤ 99) (hx : x.2.1 < 900000000) (hv : x.2.2 ≤ 100) (f : Int) : Inv x key cost (j + 1) (finStep s f) := by
  have h0 := h
  obtain ⟨h1, h2, h3, h4, h5, h6, h7⟩ := h
  have h8 := charge_le h1 hc hx
  cases ha : s.2.2.2.2
  · have hok := tcOk_of h0 hj hk hc hx hv ha
    have q1 := recv_ok (key := key) (cost := cost) h1.1 hk hc (by omega) (by omega)
    have p1 := paid_recv h1 hk hc (by omega) (by omega)
    have p2 := paid_recv p1 hk hc (by omega) (by omega)
    have q2 := recv_ok (key := key) (cost := cost) q1.1 hk hc (by omega) (by omega)
    unfold finStep tc
    rw [if_pos hok, h3, h4]
    by_cases f1 : f = 1
    · rw [if_pos f1]
      exact ⟨h1, by simp only; omega, rfl, rfl, by simp only; omega, by simp only; omega, fun h => by simp only [ha] at h; cases h⟩
    · rw [if_neg f1]
      by_cases f3 : f = 3
      · rw [if_pos f3]
        exact ⟨p2, by simp only; omega, rfl, rfl, by simp only; omega, by simp only; omega, fun _ => recv_hasI _ _ _⟩
      · rw [if_neg f3]
        exact ⟨p1, by simp only; omega, rfl, rfl, by simp only; omega, by simp only; omega, fun _ => recv_hasI _ _ _⟩
  · have hno : ¬ tcOk s.1 s.2 = true := by unfold tcOk; rw [ha]; simp
    unfold finStep tc
    rw [if_neg hno]
    exact ⟨h1, by simp only; omega, h3, h4, h5, by simp only; omega, fun _ => h7 ha⟩
theorem inv_fold {x : Le} {key cost : Int} (hk : 0 ≤ key ∧ key ≤ 1000000) (hc : 0 ≤ cost ∧ cost ≤ 99) (hx : x.2.1 < 900000000) (hv : x.2.2 ≤ 100) : ∀ (fs : List Int) (j : Nat) (s : Le × Ca), Inv x key cost j s → j + fs.length ≤ 900 → Inv x key cost (j + fs.length) (fs.foldl finStep s)
  | [], j, s, h, _ => h
  | f :: fs, j, s, h, hn => by
    simp only [List.length_cons] at hn
    have := inv_fold hk hc hx hv fs (j + 1) (finStep s f) (inv_step h (by omega) hk hc hx hv f) (by omega)
    rw [List.length_cons, show j + (fs.length + 1) = j + 1 + fs.length by omega]
    exact this
theorem fin_meaning (x : Le) (c : Ca) (fs : List Int) (hl : ledOk x = true) (hk : 0 ≤ c.1 ∧ c.1 ≤ 1000000) (hc : 0 ≤ c.2.1 ∧ c.2.1 ≤ 99) (ha : c.2.2.2 = false) (ht : c.2.2.1 = 0) (hx : x.2.1 < 900000000) (hv : x.2.2 ≤ 100) :
    (fin x c fs).2.2.2.2 = true ∧ hasI (fin x c fs).1.1 c.1 = true ∧ (fin x c fs).1.2.1 = x.2.1 + (if hasI x.1 c.1 then 0 else c.2.1) := by
  have h0 : Inv x c.1 c.2.1 0 (x, c) := by
    refine ⟨⟨hl, ?_, fun h => h⟩, by simp only; omega, rfl, rfl, by simp only; omega, by simp only; omega, fun h => by simp only [ha] at h; cases h⟩
    cases hasI x.1 c.1 <;> simp
  have hlen : (fs.take 100).length ≤ 100 := by rw [List.length_take]; omega
  have h1 := inv_fold hk hc hx hv (fs.take 100) 0 (x, c) h0 (by omega)
  unfold fin
  rw [List.foldl_append]
  simp only [List.foldl_cons, List.foldl_nil]
  generalize hs : (fs.take 100).foldl finStep (x, c) = s at h1
  have h2 := inv_step h1 (by omega) hk hc hx hv 0
  have hans : (finStep s 0).2.2.2.2 = true := by
    cases ha2 : s.2.2.2.2
    · have hok := tcOk_of h1 (by omega) hk hc hx hv ha2
      unfold finStep tc
      rw [if_pos hok, if_neg (by omega), if_neg (by omega)]
      rfl
    · have hno : ¬ tcOk s.1 s.2 = true := by unfold tcOk; rw [ha2]; simp
      unfold finStep tc
      rw [if_neg hno]; exact ha2
  obtain ⟨g1, -, -, -, -, -, g7⟩ := h2
  have g8 := g7 hans
  refine ⟨hans, g8, ?_⟩
  obtain ⟨-, g2, -⟩ := g1
  rw [g2, g8]
  cases hasI x.1 c.1 <;> simp
/-- two lists of calls that are the same are found so -/
theorem runs_S (x : Le) (cs : List Ca) (fs : List Int) (hl : x.1.length ≤ 1048576) (hc : cs.length ≤ 1048576) (hf : fs.length ≤ 1048576) : ∃ r, S.RunCalls x cs fs = some r ∧ M.RunCalls x cs fs = some r ∧ r.1.1.length ≤ 1048576 ∧ r.2.length ≤ 1048576 := by
  obtain ⟨r, h1, h2, h3, h4⟩ := run_loop cs fs hc hf FUEL 0 x [] rfl (by omega) hl (by rw [FUEL_eq]; omega)
  unfold S.RunCalls M.RunCalls
  rw [eta_le, copyLedger_S x hl, copyLedger_M x hl, Option.bind_some, Option.bind_some, show (0 : Int) = ((0 : Nat) : Int) from rfl, h1, h2]
  exact ⟨_, rfl, rfl, h3, h4⟩
theorem calls_eq (f : (Le × List Ca) → (Le × List Ca) → Nat → Int → Option (Sum Unit Bool)) (r : Le × List Ca) (h : r.2.length ≤ 1048576)
    (hs : ∀ k (i : Int), f r r (k + 1) i = if (decide (i < (List.length r.2 : Int))) then (idx r.2 i).bind fun x19 => (idx r.2 i).bind fun x20 =>
      if (!(decide (x19.1 = x20.1) && (decide (x19.2.1 = x20.2.1) && (decide (x19.2.2.1 = x20.2.2.1) && (decide (x19.2.2.2 = x20.2.2.2) && true))))) then some (.inr false) else f r r k (w64 (i + 1)) else some (.inl ())) : f r r FUEL 0 = some (.inl ()) :=
  eq_loop (f r r) r.2.length (by omega) (fun k => by rw [hs, if_neg (by simp)]) (fun k i hi => by
    rw [hs, if_pos (by simpa using hi), idx_nat r.2 hi]; simp [w64_succ (show i < 4611686018427387904 by omega)])
theorem p_FnCalls (a1 : List UInt8) (h1 : Rng.r a1) : Q.FnCalls a1 = some true := by
  unfold Q.FnCalls Q.big
  rw [Option.bind_some]
  by_cases hb : (1048576 : Int) < (a1.length : Int)
  · rw [if_pos (by simpa using hb)]
  · rw [if_neg (by simpa using hb)]
    have ha : a1.length ≤ 1048576 := by omega
    obtain ⟨x, c, fs, e1, hx, hf, hv, ht⟩ := drawFinish_ok a1 ha
    obtain ⟨y, cs, gs, e2, hy, hcs, hgs⟩ := drawRun_ok a1 ha
    obtain ⟨r, k1, k2, k3, k4⟩ := runs_S y cs gs (by omega) (by omega) (by omega)
    have hl : x.1.length ≤ 1048576 := by omega
    have hfl := fin_len x c fs hl
    have l1 := calls_eq Q.FnCalls_l1 r k4 (fun k i => by rw [Q.FnCalls_l1])
    have l2 := calls_eq Q.FnCalls_l2 r k4 (fun k i => by rw [Q.FnCalls_l2])
    rw [e1, Option.bind_some]
    simp only
    rw [eta_le, eta_ca, FinishCall_M x c fs hl (by omega), FinishCall_S x c fs hl (by omega)]
    simp only [Option.bind_some, e2, eta_le, k1, k2, sameInts_refl _ hfl, sameInts_refl _ k3, IsLedger_S x hl, has_Q _ _ hfl, has_Q _ _ hl, decide_true, Bool.and_true, Bool.not_true, Bool.false_eq_true, if_false, l1, l2]
    by_cases hok : ledOk x = true ∧ (0 ≤ c.1 ∧ c.1 ≤ 1000000) ∧ (0 ≤ c.2.1 ∧ c.2.1 ≤ 99) ∧ c.2.2.2 = false ∧ x.2.1 < 900000000
    · obtain ⟨q1, q2, q3, q4, q5⟩ := hok
      obtain ⟨m1, m2, m3⟩ := fin_meaning x c fs q1 q2 q3 q4 ht q5 hv
      have hbt : Q.btoi (!hasI x.1 c.1) = some (if hasI x.1 c.1 then 0 else 1) := by
        unfold Q.btoi; cases hasI x.1 c.1 <;> rfl
      obtain ⟨-, -, g3, -⟩ := led_parts q1
      have hch : (fin x c fs).1.2.1 = w64 (x.2.1 + w64 (c.2.1 * (if hasI x.1 c.1 then 0 else 1))) := by
        rw [m3]
        cases hasI x.1 c.1
        · simp only [Bool.false_eq_true, if_false, Int.mul_one]
          rw [w64_sm (n := c.2.1) (by omega) (by omega), w64_sm (by omega) (by omega)]
        · simp only [if_true, Int.mul_zero]
          rw [w64_sm (n := 0) (by omega) (by omega), w64_sm (by omega) (by omega)]
      rw [m1, m2, hbt, Option.bind_some, ← hch]
      simp [q1, q2.1, q2.2, q3.1, q3.2, q4, q5]
    · cases q1 : ledOk x
      · simp
      · by_cases q2 : 0 ≤ c.1
        · by_cases q3 : c.1 ≤ 1000000
          · by_cases q4 : 0 ≤ c.2.1
            · by_cases q5 : c.2.1 ≤ 99
              · cases q6 : c.2.2.2
                · by_cases q7 : x.2.1 < 900000000
                  · exact absurd ⟨q1, ⟨q2, q3⟩, ⟨q4, q5⟩, q6, q7⟩ hok
                  · simp [q2, q3, q4, q5, q7]
                · simp [q2, q3, q4, q5]
              · simp [q2, q3, q4, q5]
            · simp [q2, q3, q4]
          · simp [q2, q3]
        · simp [q2]
end Go.Gx.Px
