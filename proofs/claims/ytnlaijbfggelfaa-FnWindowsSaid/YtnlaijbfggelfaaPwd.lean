/- Plain laws: what is drawn. Conditions: none. -/
import Derived.Test.YtnlaijbfggelfaaPlSc
set_option linter.unusedVariables false
set_option linter.unusedSimpArgs false
namespace Go.Gx.Px
abbrev Code := List UInt8
theorem band255 (x : Int) : 0 ≤ band x 255 ∧ band x 255 ≤ 255 := by
  unfold band
  rw [w64_eq]
  have h : (BitVec.ofInt 64 x &&& BitVec.ofInt 64 255).toNat ≤ 255 := by
    rw [BitVec.toNat_and]; exact Nat.and_le_right
  rw [w64_id (by omega) (by omega)]
  omega
/-- a place in the code -/
def Pos (a : Code) (p : Int) : Prop := 0 ≤ p ∧ p ≤ (a.length : Int)
theorem byte_ok (a : Code) (p s : Int) (ha : a.length ≤ 1048576) (hp : Pos a p) : ∃ v q t, S.l1Byte (a, p, s) = some (v, (a, q, t)) ∧ 0 ≤ v ∧ v ≤ 255 ∧ Pos a q := by
  unfold S.l1Byte
  obtain ⟨h0, h1⟩ := hp
  by_cases h : p < (a.length : Int)
  · obtain ⟨i, rfl⟩ : ∃ i : Nat, p = i := ⟨p.toNat, by omega⟩
    have hi : i < a.length := by omega
    rw [if_pos (by simpa using hi), idx_nat a hi, Option.bind_some, Option.bind_some]
    exact ⟨_, _, _, rfl, (band255 _).1, (band255 _).2, by rw [w64_succ (by omega)]; exact ⟨by omega, by omega⟩⟩
  · rw [if_neg (by simpa using h), Option.bind_some]
    exact ⟨_, _, _, rfl, (band255 _).1, (band255 _).2, h0, h1⟩
theorem below_ok (a : Code) (p s n : Int) (ha : a.length ≤ 1048576) (hp : Pos a p) (h0 : 0 < n) (h1 : n ≤ 256) : ∃ v q t, S.l1Below (a, p, s) n = some (v, (a, q, t)) ∧ 0 ≤ v ∧ v < n ∧ Pos a q := by
  obtain ⟨v, q, t, e, v0, v1, hq⟩ := byte_ok a p s ha hp
  unfold S.l1Below
  have hz : nz n = some () := by unfold nz; rw [if_neg (by omega)]
  rw [if_neg (by simp; omega), if_pos (by simpa using h1), e, Option.bind_some, hz, Option.bind_some]
  refine ⟨_, _, _, rfl, ?_, ?_, hq⟩
  · rw [Int.tmod_eq_emod_of_nonneg v0]; exact Int.emod_nonneg _ (by omega)
  · rw [Int.tmod_eq_emod_of_nonneg v0]; exact Int.emod_lt_of_pos _ h0
theorem pick_ok (a : Code) (p s : Int) (l : List Int) (ha : a.length ≤ 1048576) (hp : Pos a p) (h0 : 0 < l.length) (h1 : l.length ≤ 256) : ∃ v q t, S.l1PickInt (a, p, s) l = some (v, (a, q, t)) ∧ v ∈ l ∧ Pos a q := by
  obtain ⟨v, q, t, e, v0, v1, hq⟩ := below_ok a p s (l.length : Int) ha hp (by omega) (by omega)
  unfold S.l1PickInt
  obtain ⟨i, rfl⟩ : ∃ i : Nat, v = i := ⟨v.toNat, by omega⟩
  have hi : i < l.length := by omega
  rw [e, Option.bind_some, idx_nat l hi, Option.bind_some]
  exact ⟨_, _, _, rfl, List.getElem_mem hi, hq⟩
theorem new_ok (a : Code) (ha : a.length ≤ 1048576) : ∃ t, S.l1New a = some (a, 0, t) := by
  unfold S.l1New
  have key : ∀ (K i : Nat) (x : Int), i ≤ a.length → a.length < i + K → ∃ t, S.l1New_l1 a K x (i : Int) = some t := by
    intro K
    induction K with
    | zero => intro i x h1 h2; omega
    | succ K ih =>
      intro i x h1 h2
      rw [S.l1New_l1]
      by_cases hi : i < a.length
      · rw [if_pos (by simpa using hi), Option.bind_some]
        by_cases h4 : (i : Int) < 4000
        · rw [if_pos (by simpa using h4), idx_nat a hi, Option.bind_some, w64_succ (by omega)]
          exact ih (i + 1) _ (by omega) (by omega)
        · rw [if_neg (by simpa using h4)]; exact ⟨_, rfl⟩
      · rw [if_neg (by simpa using hi), Option.bind_some, if_neg (by simp)]; exact ⟨_, rfl⟩
  obtain ⟨t, h⟩ := key FUEL 0 (w64 (10101 + (a.length : Int))) (by omega) (by rw [FUEL_eq]; omega)
  have h' : S.l1New_l1 a FUEL (w64 (10101 + (a.length : Int))) 0 = some t := h
  rw [h']
  exact ⟨t, rfl⟩
theorem once_ok (a : Code) (p s n : Int) (ha : a.length ≤ 1048576) (hp : Pos a p) (h0 : 0 < n) (h1 : n ≤ 256) : ∃ (b : Bool) (q t : Int), S.l1Once (a, p, s) n = some (b, (a, q, t)) ∧ Pos a q := by
  obtain ⟨v, q, t, e, -, -, p1⟩ := below_ok a p s n ha hp h0 h1
  unfold S.l1Once
  rw [e]
  exact ⟨_, q, t, rfl, p1⟩
theorem w64_down (n : Nat) (h : n < 4294967296) : w64 (((n + 1 : Nat) : Int) - 1) = (n : Int) := by rw [w64_sm (by omega) (by omega)]; omega
theorem wlist_loop (a : Code) (ha : a.length ≤ 1048576) (c : Code × Int × Int) (hc : c.1 = a) : ∀ (n K : Nat) (p s : Int) (l : List Int) (u : Int), n < K → l.length + n ≤ 100 → Pos a p → ∃ (q t : Int) (m : List Int), S.l18List_l1 c K p s l u (n : Int) = some (q, t, m) ∧ m.length ≤ l.length + n ∧ Pos a q := by
  intro n
  induction n with
  | zero =>
    intro K p s l u hK hl hp
    obtain ⟨K, rfl⟩ : ∃ k, K = k + 1 := ⟨K - 1, by omega⟩
    rw [S.l18List_l1, if_neg (by simp)]
    exact ⟨p, s, l, rfl, by omega, hp⟩
  | succ n ih =>
    intro K p s l u hK hl hp
    obtain ⟨K, rfl⟩ : ∃ k, K = k + 1 := ⟨K - 1, by omega⟩
    obtain ⟨v1, q1, t1, e1, -, -, p1⟩ := below_ok a p s 4 ha hp (by omega) (by omega)
    rw [S.l18List_l1, if_pos (decide_eq_true (by omega)), hc, e1, Option.bind_some]
    simp only
    rw [app_eq _ _ (by simp; omega), Option.bind_some, w64_down n (by omega)]
    obtain ⟨q, t, m, g1, g2, g3⟩ := ih K q1 t1 (l ++ [w64 (u + v1)]) (w64 (u + v1)) (by omega) (by simp; omega) p1
    exact ⟨q, t, m, g1, by simp at g2; omega, g3⟩
theorem wlist_ok (a : Code) (p s : Int) (ha : a.length ≤ 1048576) (hp : Pos a p) : ∃ (l : List Int) (q t : Int), S.l18List (a, p, s) = some (l, (a, q, t)) ∧ l.length ≤ 10 ∧ Pos a q := by
  obtain ⟨v1, q1, t1, e1, h0, h1, p1⟩ := below_ok a p s 7 ha hp (by omega) (by omega)
  obtain ⟨n, rfl⟩ : ∃ n : Nat, v1 = n := ⟨v1.toNat, by omega⟩
  obtain ⟨q2, t2, m, e2, hm, p2⟩ := wlist_loop a ha (a, p, s) rfl n FUEL q1 t1 [] 0 (by rw [FUEL_eq]; omega) (by simp; omega) p1
  obtain ⟨b, q3, t3, e3, p3⟩ := once_ok a q2 t2 12 ha p2 (by omega) (by omega)
  unfold S.l18List
  rw [e1, Option.bind_some]
  simp only
  rw [e2, Option.bind_some]
  simp only
  rw [e3, Option.bind_some]
  simp only
  simp only [List.length_nil] at hm
  cases b
  · exact ⟨m, q3, t3, rfl, by omega, p3⟩
  · obtain ⟨v4, q4, t4, e4, -, p4⟩ := pick_ok a q3 t3 [(-1), 0, 10000, 10001] ha p3 (by simp) (by simp)
    rw [if_pos rfl, e4, Option.bind_some]
    simp only
    rw [app_eq _ _ (by simp; omega)]
    exact ⟨m ++ [v4], q4, t4, rfl, by simp; omega, p4⟩
theorem win_ok (a : Code) (p s : Int) (ha : a.length ≤ 1048576) (hp : Pos a p) : ∃ (w : Int × Int) (q t : Int), S.l18Window (a, p, s) = some (w, (a, q, t)) ∧ Pos a q := by
  obtain ⟨v1, q1, t1, e1, -, -, p1⟩ := below_ok a p s 6 ha hp (by omega) (by omega)
  obtain ⟨v2, q2, t2, e2, -, -, p2⟩ := below_ok a q1 t1 3 ha p1 (by omega) (by omega)
  obtain ⟨v3, q3, t3, e3, -, -, p3⟩ := below_ok a q2 t2 12 ha p2 (by omega) (by omega)
  unfold S.l18Window
  rw [e1, Option.bind_some]
  simp only
  rw [e2, Option.bind_some]
  simp only
  rw [e3, Option.bind_some]
  simp only
  by_cases c0 : v3 = 0
  · obtain ⟨v4, q4, t4, e4, -, p4⟩ := pick_ok a q3 t3 [0, 100, 101] ha p3 (by simp) (by simp)
    rw [if_pos (decide_eq_true c0), e4]
    exact ⟨_, q4, t4, rfl, p4⟩
  · rw [if_neg (by simpa using c0)]
    by_cases c1 : v3 = 1
    · obtain ⟨v4, q4, t4, e4, -, p4⟩ := pick_ok a q3 t3 [0, 99, 100] ha p3 (by simp) (by simp)
      rw [if_pos (decide_eq_true c1), e4]
      exact ⟨_, q4, t4, rfl, p4⟩
    · rw [if_neg (by simpa using c1)]
      exact ⟨_, q3, t3, rfl, p3⟩
theorem drawCalls_ok (a : Code) (ha : a.length ≤ 1048576) : ∃ (n : Int) (w : Int × Int) (now : Int), S.DrawScheduleCalls a = some (n, w, now) := by
  obtain ⟨t, e0⟩ := new_ok a ha
  obtain ⟨w, q1, t1, e1, p1⟩ := win_ok a 0 t ha ⟨by omega, by omega⟩
  obtain ⟨v2, q2, t2, e2, -, -, p2⟩ := below_ok a q1 t1 9 ha p1 (by omega) (by omega)
  obtain ⟨v3, q3, t3, e3, -, p3⟩ := pick_ok a q2 t2 [0, 5, 9990, 10001] ha p2 (by simp) (by simp)
  unfold S.DrawScheduleCalls
  rw [e0, Option.bind_some]
  simp only
  rw [e1, Option.bind_some]
  simp only
  rw [e2, Option.bind_some]
  simp only
  rw [e3]
  exact ⟨_, _, _, rfl⟩
theorem drawNext_ok (a : Code) (ha : a.length ≤ 1048576) : ∃ (l : List Int) (w : Int × Int) (now : Int), S.DrawNextTime a = some (l, w, now) ∧ l.length ≤ 10 := by
  obtain ⟨t, e0⟩ := new_ok a ha
  obtain ⟨l, q1, t1, e1, hl, p1⟩ := wlist_ok a 0 t ha ⟨by omega, by omega⟩
  obtain ⟨w, q2, t2, e2, p2⟩ := win_ok a q1 t1 ha p1
  obtain ⟨v3, q3, t3, e3, -, p3⟩ := pick_ok a q2 t2 [0, 3, 9, 10000, (-1)] ha p2 (by simp) (by simp)
  unfold S.DrawNextTime
  rw [e0, Option.bind_some]
  simp only
  rw [e1, Option.bind_some]
  simp only
  rw [e2, Option.bind_some]
  simp only
  rw [e3]
  exact ⟨_, _, _, rfl, hl⟩
theorem drawKept_ok (a : Code) (ha : a.length ≤ 1048576) : ∃ (l : List Int) (w : Int × Int), S.DrawIsKept a = some (l, w) ∧ l.length ≤ 10 := by
  obtain ⟨t, e0⟩ := new_ok a ha
  obtain ⟨l, q1, t1, e1, hl, p1⟩ := wlist_ok a 0 t ha ⟨by omega, by omega⟩
  obtain ⟨w, q2, t2, e2, p2⟩ := win_ok a q1 t1 ha p1
  unfold S.DrawIsKept
  rw [e0, Option.bind_some]
  simp only
  rw [e1, Option.bind_some]
  simp only
  rw [e2]
  exact ⟨_, _, rfl, hl⟩
theorem drawIn_ok (a : Code) (ha : a.length ≤ 1048576) : ∃ (l : List Int) (x n : Int), S.DrawCallsIn a = some (l, x, n) ∧ l.length ≤ 10 := by
  obtain ⟨t, e0⟩ := new_ok a ha
  obtain ⟨l, q1, t1, e1, hl, p1⟩ := wlist_ok a 0 t ha ⟨by omega, by omega⟩
  obtain ⟨v2, q2, t2, e2, -, -, p2⟩ := below_ok a q1 t1 8 ha p1 (by omega) (by omega)
  obtain ⟨v3, q3, t3, e3, -, -, p3⟩ := below_ok a q2 t2 6 ha p2 (by omega) (by omega)
  unfold S.DrawCallsIn
  rw [e0, Option.bind_some]
  simp only
  rw [e1, Option.bind_some]
  simp only
  rw [e2, Option.bind_some]
  simp only
  rw [e3]
  exact ⟨_, _, _, rfl, hl⟩
end Go.Gx.Px
