/- Plain laws: ledgers: the law. Conditions: none. -/
import Derived.Test.YtnjjpmilcajmkaaPdr
import Derived.Test.YtnjjpmilcajmkaaPt
set_option linter.unusedVariables false
set_option linter.unusedSimpArgs false
namespace Go.Gx.Px
theorem rc_len (x : Le) (key cost : Int) : (rc x key cost).1.1.length ≤ x.1.length + 1 := by
  unfold rc
  split
  · unfold recv
    split
    · simp only; omega
    · exact putI_len _ _
  · simp only; omega
theorem ledger_loop (a : Code) (ha : a.length ≤ 1048576) (c : Code × Int × Int) (hc : c.1 = a) : ∀ (n K : Nat) (p s : Int) (l : List Int) (u v : Int), n < K → l.length + n ≤ 100 → Pos a p → ∃ q t m u' v', S.l27Ledger_l1 c K p s l u v (n : Int) = some (q, t, m, u', v') ∧ m.length ≤ 100 ∧ Pos a q := by
  intro n
  induction n with
  | zero =>
    intro K p s l u v hK hl hp
    obtain ⟨K, rfl⟩ : ∃ k, K = k + 1 := ⟨K - 1, by omega⟩
    rw [S.l27Ledger_l1, if_neg (by simp)]
    exact ⟨_, _, _, _, _, rfl, by omega, hp⟩
  | succ n ih =>
    intro K p s l u v hK hl hp
    obtain ⟨K, rfl⟩ : ∃ k, K = k + 1 := ⟨K - 1, by omega⟩
    obtain ⟨v1, q1, t1, e1, -, -, p1⟩ := below_ok a p s 8 ha hp (by omega) (by omega)
    obtain ⟨v2, q2, t2, e2, -, -, p2⟩ := below_ok a q1 t1 5 ha p1 (by omega) (by omega)
    have hlen := rc_len (l, u, v) v1 v2
    rw [S.l27Ledger_l1, if_pos (decide_eq_true (by omega)), hc, e1, Option.bind_some]
    simp only
    rw [e2, Option.bind_some]
    simp only
    rw [ReceiveCall_S (l, u, v) v1 v2 (show l.length ≤ 1048576 by omega), Option.bind_some, Option.bind_some]
    simp only
    have e3 : w64 (((n + 1 : Nat) : Int) - 1) = (n : Int) := by rw [w64_sm (by omega) (by omega)]; omega
    rw [e3]
    simp only at hlen
    exact ih K q2 t2 _ _ _ (by omega) (by omega) p2
theorem ledger_ok (a : Code) (p s : Int) (ha : a.length ≤ 1048576) (hp : Pos a p) : ∃ (x : Le) (q t : Int), S.l27Ledger (a, p, s) = some (x, (a, q, t)) ∧ x.1.length ≤ 101 ∧ Pos a q := by
  obtain ⟨v1, q1, t1, e1, h0, h5, p1⟩ := below_ok a p s 5 ha hp (by omega) (by omega)
  obtain ⟨n, rfl⟩ : ∃ n : Nat, v1 = n := ⟨v1.toNat, by omega⟩
  obtain ⟨q2, t2, m, u, v, e2, hm, p2⟩ := ledger_loop a ha (a, p, s) rfl n FUEL q1 t1 [] 0 0 (by rw [FUEL_eq]; omega) (by simp; omega) p1
  obtain ⟨v3, q3, t3, e3, -, -, p3⟩ := below_ok a q2 t2 12 ha p2 (by omega) (by omega)
  unfold S.l27Ledger
  rw [e1, Option.bind_some]
  simp only
  rw [e2, Option.bind_some]
  simp only
  rw [e3, Option.bind_some]
  simp only
  by_cases h1 : v3 = 0
  · obtain ⟨v4, q4, t4, e4, -, -, p4⟩ := below_ok a q3 t3 4 ha p3 (by omega) (by omega)
    rw [if_pos (by simpa using h1), e4, Option.bind_some, app_eq _ _ (by simp; omega)]
    exact ⟨(m ++ [v4], u, v), q4, t4, rfl, by simp; omega, p4⟩
  · rw [if_neg (by simpa using h1)]
    by_cases h2 : v3 = 1
    · obtain ⟨v4, q4, t4, e4, -, p4⟩ := pick_ok a q3 t3 [-1, 999998000, 999998001, 1000000000] ha p3 (by simp) (by simp)
      rw [if_pos (by simpa using h2), e4]
      exact ⟨(m, v4, v), q4, t4, rfl, by simp; omega, p4⟩
    · rw [if_neg (by simpa using h2)]
      exact ⟨(m, u, v), q3, t3, rfl, by simp; omega, p3⟩
theorem call_ok (a : Code) (p s : Int) (ha : a.length ≤ 1048576) (hp : Pos a p) : ∃ (x : Ca) (q t : Int), S.l27Call (a, p, s) = some (x, (a, q, t)) ∧ Pos a q := by
  obtain ⟨v1, q1, t1, e1, -, -, p1⟩ := below_ok a p s 8 ha hp (by omega) (by omega)
  obtain ⟨v2, q2, t2, e2, -, -, p2⟩ := below_ok a q1 t1 5 ha p1 (by omega) (by omega)
  obtain ⟨v3, q3, t3, e3, -, -, p3⟩ := below_ok a q2 t2 12 ha p2 (by omega) (by omega)
  unfold S.l27Call
  rw [e1, Option.bind_some]
  simp only
  rw [e2, Option.bind_some]
  simp only
  rw [e3, Option.bind_some]
  simp only
  by_cases h1 : v3 = 0
  · obtain ⟨v4, q4, t4, e4, -, p4⟩ := pick_ok a q3 t3 [-1, 1000000, 1000001] ha p3 (by simp) (by simp)
    rw [if_pos (by simpa using h1), e4]
    exact ⟨_, _, _, rfl, p4⟩
  · rw [if_neg (by simpa using h1)]
    by_cases h2 : v3 = 1
    · rw [if_pos (by simpa using h2)]
      exact ⟨_, _, _, rfl, p3⟩
    · rw [if_neg (by simpa using h2)]
      by_cases h3 : v3 = 2
      · obtain ⟨v4, q4, t4, e4, -, p4⟩ := pick_ok a q3 t3 [-1, 99, 100] ha p3 (by simp) (by simp)
        rw [if_pos (by simpa using h3), e4]
        exact ⟨_, _, _, rfl, p4⟩
      · rw [if_neg (by simpa using h3)]
        exact ⟨_, _, _, rfl, p3⟩
theorem drawReceive_ok (a : Code) (ha : a.length ≤ 1048576) : ∃ (x : Le) (k c : Int), S.DrawReceiveCall a = some (x, k, c) ∧ x.1.length ≤ 101 := by
  obtain ⟨t, e0⟩ := new_ok a ha
  obtain ⟨x, q1, t1, e1, hx, p1⟩ := ledger_ok a 0 t ha ⟨by omega, by omega⟩
  obtain ⟨c, q2, t2, e2, -⟩ := call_ok a q1 t1 ha p1
  unfold S.DrawReceiveCall
  rw [e0, Option.bind_some]
  simp only
  rw [e1, Option.bind_some]
  simp only
  rw [e2]
  exact ⟨x, c.1, c.2.1, rfl, hx⟩
theorem drawTry_ok (a : Code) (ha : a.length ≤ 1048576) : ∃ (x : Le) (c : Ca) (f : Int), S.DrawTryCall a = some (x, c, f) ∧ x.1.length ≤ 101 := by
  obtain ⟨t, e0⟩ := new_ok a ha
  obtain ⟨x, q1, t1, e1, hx, p1⟩ := ledger_ok a 0 t ha ⟨by omega, by omega⟩
  obtain ⟨c, q2, t2, e2, p2⟩ := call_ok a q1 t1 ha p1
  obtain ⟨v3, q3, t3, e3, -, -, p3⟩ := below_ok a q2 t2 6 ha p2 (by omega) (by omega)
  unfold S.DrawTryCall
  rw [e0, Option.bind_some]
  simp only
  rw [e1, Option.bind_some]
  simp only
  rw [e2, Option.bind_some]
  simp only
  rw [e3]
  exact ⟨x, c, w64 (v3 - 1), rfl, hx⟩
theorem drawWait_ok (a : Code) (ha : a.length ≤ 1048576) : ∃ n : Int, S.DrawWaitBefore a = some n ∧ -1 ≤ n ∧ n ≤ 10 := by
  obtain ⟨t, e0⟩ := new_ok a ha
  obtain ⟨v3, q3, t3, e3, h1, h2, p3⟩ := below_ok a 0 t 12 ha ⟨by omega, by omega⟩ (by omega) (by omega)
  unfold S.DrawWaitBefore
  rw [e0, Option.bind_some]
  simp only
  rw [e3]
  exact ⟨_, rfl, by rw [w64_sm (by omega) (by omega)]; omega, by rw [w64_sm (by omega) (by omega)]; omega⟩
def wb (n : Int) : Int := if n < 1 then 0 else if n = 1 then 2 else if n = 2 then 4 else if n = 3 then 8 else if n = 4 then 16 else if n = 5 then 32 else 64
theorem shl1 (n : Int) (h0 : 1 ≤ n) (h1 : n ≤ 6) : shl 1 n = wb n := by
  have : n = 1 ∨ n = 2 ∨ n = 3 ∨ n = 4 ∨ n = 5 ∨ n = 6 := by omega
  unfold shl
  rcases this with rfl | rfl | rfl | rfl | rfl | rfl <;> exact w64_id (by decide) (by decide)
theorem wb_big {n : Int} (h1 : ¬ n < 1) (h2 : 6 < n) : wb n = 64 := by
  unfold wb; rw [if_neg h1, if_neg (by omega), if_neg (by omega), if_neg (by omega), if_neg (by omega), if_neg (by omega)]
theorem wait_M (n : Int) : M.WaitBefore n = some (wb n) := by
  unfold M.WaitBefore nn
  by_cases h1 : n < 1
  · rw [if_pos (by simpa using h1)]; unfold wb; rw [if_pos h1]
  · rw [if_neg (by simpa using h1)]
    by_cases h2 : 6 < n
    · rw [if_pos h2, if_pos (by omega), Option.bind_some, shl1 6 (by omega) (by omega), wb_big h1 h2]; rfl
    · rw [if_neg h2, if_pos (by omega), Option.bind_some, shl1 n (by omega) (by omega)]
theorem wait_S (n : Int) : S.WaitBefore n = some (wb n) := by
  unfold S.WaitBefore nn
  by_cases h1 : n < 1
  · rw [if_pos (by simpa using h1)]; unfold wb; rw [if_pos h1]
  · rw [if_neg (by simpa using h1)]
    by_cases h2 : 6 < n
    · rw [if_pos (by simpa using h2), wb_big h1 h2]
    · rw [if_neg (by simpa using h2), if_pos (by omega), Option.bind_some, shl1 n (by omega) (by omega)]
theorem wb_mono (n : Int) : wb n ≤ wb (n + 1) := by
  unfold wb
  repeat' split
  all_goals omega
theorem sameInts_refl (l : List Int) (h : l.length ≤ 1048576) : Q.sameInts l l = some true := by
  unfold Q.sameInts
  rw [if_neg (by simp), eq_loop (Q.sameInts_l1 l l) l.length (by omega) (fun k => by rw [Q.sameInts_l1, if_neg (by simp)]) (fun k i hi => by
    rw [Q.sameInts_l1, if_pos (by simpa using hi), idx_nat l hi]; simp [w64_succ (show i < 4611686018427387904 by omega)])]
  rfl
theorem has_Q (l : List Int) (x : Int) (h : l.length ≤ 1048576) : Q.has l x = some (hasI l x) := by
  unfold Q.has hasI
  rw [any_loop (Q.has_l1 l x) l (fun e => decide (e = x)) true (by omega) (fun k => by rw [Q.has_l1, if_neg (by simp)]) (fun k i hi => by
    rw [Q.has_l1, if_pos (by simpa using hi), idx_nat l hi, Option.bind_some, w64_succ (by omega)])]
  cases l.any fun e => decide (e = x) <;> rfl
theorem has_put (l : List Int) (x : Int) : hasI (putI l x) x = true := by
  unfold putI
  split
  · assumption
  · unfold hasI; simp
theorem recv_has {z : Le} {key cost : Int} (h : hasI z.1 key = true) : recv z key cost = (z.1, z.2.1, z.2.2 + 1) := by
  unfold recv; rw [if_pos h]
/-- the second half of the law -/
theorem led_tail (a : Code) (ha : a.length ≤ 1048576) {f : (Le × Ca × Int) → Option Bool} (hf : ∀ (y : Le) (c : Ca) (t : Int), y.1.length ≤ 101 → f (y, c, t) = some true) : (S.DrawTryCall a).bind f = some true := by
  obtain ⟨y, c, t, e, hy⟩ := drawTry_ok a ha
  rw [e, Option.bind_some]; exact hf y c t hy
theorem p_FnLedgers (a1 : List UInt8) (h1 : Rng.r a1) : Q.FnLedgers a1 = some true := by
  unfold Q.FnLedgers Q.big
  rw [Option.bind_some]
  by_cases hb : (1048576 : Int) < (a1.length : Int)
  · rw [if_pos (by simpa using hb)]
  · rw [if_neg (by simpa using hb)]
    have ha : a1.length ≤ 1048576 := by omega
    obtain ⟨x, key, cost, e1, hx⟩ := drawReceive_ok a1 ha
    have hl : x.1.length ≤ 1048576 := by omega
    have hlen := rc_len x key cost
    have tail : ∀ (y : Le) (c : Ca) (t : Int), y.1.length ≤ 101 → ((M.TryCall (y.1, y.2.1, y.2.2) (c.1, c.2.1, c.2.2.1, c.2.2.2) t).bind fun x15 =>
          (S.TryCall (y.1, y.2.1, y.2.2) (c.1, c.2.1, c.2.2.1, c.2.2.2) t).bind fun x16 =>
          (S.DrawWaitBefore a1).bind fun x17 =>
          (if (decide (x15.2.2 = x16.2.2)) then
            if (decide (x15.2.1.1 = x16.2.1.1) && (decide (x15.2.1.2.1 = x16.2.1.2.1) && (decide (x15.2.1.2.2.1 = x16.2.1.2.2.1) && (decide (x15.2.1.2.2.2 = x16.2.1.2.2.2) && true)))) then
              (Q.sameInts x15.1.1 x16.1.1).bind fun x19 =>
              if x19 then
                if (decide (x15.1.2.1 = x16.1.2.1)) then
                  if (decide (x15.1.2.2 = x16.1.2.2)) then
                    (M.WaitBefore x17).bind fun x20 =>
                    (S.WaitBefore x17).bind fun x21 =>
                    if (decide (x20 = x21)) then
                      (M.WaitBefore x17).bind fun x22 =>
                      (M.WaitBefore (w64 (x17 + 1))).bind fun x23 =>
                      some (decide (x22 ≤ x23))
                    else
                      some false
                  else
                    some false
                else
                  some false
              else
                some false
            else
              some false
          else
            some false).bind fun x18 =>
          some x18) = some true := by
      intro y c t hy
      obtain ⟨n, en, n0, n1⟩ := drawWait_ok a1 ha
      have k1 := TryCall_M y c t (by omega)
      have k2 := TryCall_S y c t (by omega)
      have k3 := tc_len y c t (by omega)
      rw [show (y.1, y.2.1, y.2.2) = y from rfl, show (c.1, c.2.1, c.2.2.1, c.2.2.2) = c from rfl, k1, k2, Option.bind_some, Option.bind_some, en, Option.bind_some, sameInts_refl _ k3, wait_M, wait_S, wait_M, w64_sm (n := n + 1) (by omega) (by omega)]
      have := wb_mono n
      simp [this]
    rw [e1, Option.bind_some]
    simp only
    rw [show (x.1, x.2.1, x.2.2) = x from rfl, ReceiveCall_M x key cost hl, ReceiveCall_S x key cost hl, Option.bind_some, Option.bind_some]
    have hs : Q.sameInts (rc x key cost).1.1 (rc x key cost).1.1 = some true := sameInts_refl _ (by omega)
    simp only [hs, decide_true, Bool.not_true, Bool.false_eq_true, if_false, Option.bind_some]
    by_cases hok : rcOk x key cost = true
    · have er : rc x key cost = (recv x key cost, true) := by unfold rc; rw [if_pos hok]
      have hp := hok
      unfold rcOk at hp
      simp only [Bool.and_eq_true, Bool.not_eq_true', Bool.or_eq_false_iff, decide_eq_false_iff_not, inR_iff] at hp
      obtain ⟨⟨q1, q2, q3⟩, q4, q5⟩ := hp
      obtain ⟨r1, r2, r3⟩ := recv_ok (key := key) (cost := cost) q1 q2 q3 (by omega) (by omega)
      obtain ⟨-, -, g3, g4⟩ := led_parts q1
      have hl2 : (recv x key cost).1.length ≤ 1048576 := by have := led_sm r1; omega
      have hch : (recv x key cost).2.1 = w64 (x.2.1 + w64 (cost * (if hasI x.1 key then 0 else 1))) := by
        unfold recv
        cases hasI x.1 key
        · simp only [Bool.false_eq_true, if_false, Int.mul_one]
          rw [w64_sm (n := cost) (by omega) (by omega), w64_sm (by omega) (by omega)]
        · simp only [if_true, Int.mul_zero]
          rw [w64_sm (n := 0) (by omega) (by omega), w64_sm (by omega) (by omega)]; omega
      have hbt : Q.btoi (!hasI x.1 key) = some (if hasI x.1 key then 0 else 1) := by
        unfold Q.btoi; cases hasI x.1 key <;> rfl
      have hag : (rc (recv x key cost) key cost).2 = true → (rc (recv x key cost) key cost).1.2.1 = (recv x key cost).2.1 ∧ (rc (recv x key cost) key cost).1.1 = (recv x key cost).1 := by
        intro h
        have hh : hasI (recv x key cost).1 key = true := by
          unfold recv
          cases hx : hasI x.1 key
          · simp only [Bool.false_eq_true, if_false]; exact has_put _ _
          · simp only [if_true]; exact hx
        unfold rc at h ⊢
        split at h
        · rename_i ho
          rw [if_pos ho]
          rw [recv_has hh]
          exact ⟨rfl, rfl⟩
        · cases h
      rw [er]
      simp only [if_true]
      rw [show ((recv x key cost).1, (recv x key cost).2.1, (recv x key cost).2.2) = recv x key cost from rfl, ReceiveCall_M _ key cost hl2, Option.bind_some, has_Q _ _ hl, Option.bind_some, hbt, Option.bind_some, IsLedger_M _ hl2, r1]
      rw [if_neg (by rw [← hch]; simp)]
      have hx8 : (if (rc (recv x key cost) key cost).2 = true then
            if (!decide ((rc (recv x key cost) key cost).1.2.1 = (recv x key cost).2.1)) = true then some true
            else (Q.sameInts (rc (recv x key cost) key cost).1.1 (recv x key cost).1).bind fun x11 => if (!x11) = true then some true else (some true).bind fun x12 => some (!x12)
          else (some true).bind fun x13 => some (!x13)) = some false := by
        by_cases hag2 : (rc (recv x key cost) key cost).2 = true
        · obtain ⟨m1, m2⟩ := hag hag2
          rw [if_pos hag2, m1, m2, sameInts_refl _ hl2]
          simp
        · rw [if_neg hag2]; rfl
      rw [hx8, Option.bind_some, if_neg (by simp)]
      exact led_tail a1 ha tail
    · have er : rc x key cost = (x, false) := by unfold rc; rw [if_neg hok]
      rw [er]
      simp only [Bool.false_eq_true, if_false]
      exact led_tail a1 ha tail
end Go.Gx.Px
