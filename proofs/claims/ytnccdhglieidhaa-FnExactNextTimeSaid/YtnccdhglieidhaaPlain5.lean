/- Plain laws of the pure functions: the next time. Conditions: none. -/
import Derived.Test.YtnccdhglieidhaaPlain4
set_option linter.unusedVariables false
set_option linter.unusedSimpArgs false
namespace Go.Gx.Px
def nth (a : List Int) (i : Nat) : Int := a.getD i 0
theorem idx_nth (a : List Int) {i : Nat} (h : i < a.length) : idx a (i : Int) = some (nth a i) := by
  rw [idx_nat a h]; simp [nth, h]
theorem inS (a b c : Int) : S.l1In a b c = some (decide (b ≤ a) && decide (a ≤ c)) := by
  unfold S.l1In
  by_cases h : b ≤ a <;> simp [h]
theorem inM (a b c : Int) : M.within a b c = some (decide (b ≤ a) && decide (a ≤ c)) := by
  unfold M.within
  by_cases h : b ≤ a <;> simp [h]
def okT (a : List Int) (i : Nat) : Bool := decide (0 ≤ nth a i) && decide (nth a i ≤ 10000) && !(decide (0 < i) && decide (nth a i < nth a (i - 1)))
theorem w64_pred {i : Nat} (h0 : 0 < i) (h : i < 4294967296) : w64 ((i : Int) - 1) = ((i - 1 : Nat) : Int) := by
  rw [w64_id (by omega) (by omega)]; omega
theorem pos_cast (i : Nat) : ((0 : Int) < (i : Int)) ↔ 0 < i := by omega
open Classical in
theorem l18Times_eq (a : List Int) (ha : a.length ≤ 1048576) : S.l18Times a = some (decide (∀ j, 0 ≤ j → j < a.length → okT a j = true) && decide (a.length ≤ 1000)) := by
  unfold S.l18Times
  have h := all_loop (S.l18Times_l1 a) (okT a) a.length (fun k => by rw [S.l18Times_l1, if_neg (by simp)]) (fun k i hi => by
    rw [S.l18Times_l1, if_pos (by simpa using hi), idx_nth a hi]
    simp only [Option.bind_some, inS, w64_succ (show i < 4294967296 by omega)]
    unfold okT
    by_cases h1 : 0 ≤ nth a i <;> by_cases h2 : nth a i ≤ 10000 <;> by_cases h3 : 0 < i
    · rw [w64_pred h3 (by omega), idx_nth a (show i - 1 < a.length by omega)]
      by_cases h4 : nth a i < nth a (i - 1) <;> simp [h1, h2, h3, h4, pos_cast]
    all_goals simp [h1, h2, h3, pos_cast]) FUEL 0 (by omega) (by rw [FUEL_eq]; omega)
  rw [show (0 : Int) = ((0 : Nat) : Int) from rfl, h]
  by_cases hq : ∀ j, 0 ≤ j → j < a.length → okT a j = true
  · rw [if_pos hq, Option.bind_some]; dsimp only
    rw [decide_eq_true hq, Bool.true_and]
    congr 1
    exact decide_eq_decide.2 (by omega)
  · rw [if_neg hq, Option.bind_some]; dsimp only
    rw [decide_eq_false hq, Bool.false_and]
theorem bit_eq (b : Bool) : M.bit b = some (if b then 1 else 0) := by unfold M.bit; cases b <;> rfl
theorem CallsIn_same (a : List Int) (ha : a.length ≤ 1048576) (x L : Int) (hx : 0 ≤ x) : ∀ (k i : Nat) (c : Int), 0 ≤ c → c ≤ i → i ≤ a.length → S.CallsIn_l1 a x L k c (i : Int) = M.CallsIn_l1 a x L k c (i : Int) ∧ (a.length - i < k → ∃ r, S.CallsIn_l1 a x L k c (i : Int) = some r)
  | 0, i, c, h0, h1, h2 => ⟨rfl, fun h => by omega⟩
  | k + 1, i, c, h0, h1, h2 => by
    rw [S.CallsIn_l1, M.CallsIn_l1]
    by_cases hc : i < a.length
    · rw [if_pos (by simpa using hc), if_pos (by simpa using hc), idx_nth a hc]
      simp only [Option.bind_some, bit_eq, w64_succ (show i < 4294967296 by omega)]
      have e0 : w64 (c + 0) = c := by rw [w64_id (by omega) (by omega)]; omega
      have e1 : w64 (c + 1) = c + 1 := w64_id (by omega) (by omega)
      by_cases g1 : x ≤ nth a i
      · by_cases g2 : w64 (nth a i - x) < L
        · have ih := CallsIn_same a ha x L hx k (i + 1) (c + 1) (by omega) (by omega) (by omega)
          simp only [g1, g2, hx, show 0 ≤ nth a i by omega, decide_true, if_true, Option.bind_some, e1]
          exact ⟨ih.1, fun h => ih.2 (by omega)⟩
        · have ih := CallsIn_same a ha x L hx k (i + 1) c (by omega) (by omega) (by omega)
          simp only [g1, g2, hx, decide_true, decide_false, if_true, if_false, Bool.false_eq_true, Option.bind_some, e0]
          exact ⟨ih.1, fun h => ih.2 (by omega)⟩
      · have ih := CallsIn_same a ha x L hx k (i + 1) c (by omega) (by omega) (by omega)
        simp only [g1, hx, decide_true, decide_false, if_true, if_false, Bool.false_eq_true, Option.bind_some, e0]
        exact ⟨ih.1, fun h => ih.2 (by omega)⟩
    · rw [if_neg (by simpa using hc), if_neg (by simpa using hc)]
      exact ⟨rfl, fun _ => ⟨c, rfl⟩⟩
def cnt (a : List Int) (x L : Int) : Int := (S.CallsIn a x L).getD 0
theorem CallsIn_S (a : List Int) (ha : a.length ≤ 1048576) (x L : Int) (hx : 0 ≤ x) : S.CallsIn a x L = some (cnt a x L) ∧ M.CallsIn a x L = some (cnt a x L) := by
  obtain ⟨h1, h2⟩ := CallsIn_same a ha x L hx FUEL 0 0 (by omega) (by omega) (by omega)
  obtain ⟨r, hr⟩ := h2 (by rw [FUEL_eq]; omega)
  have hS : S.CallsIn a x L = some r := by unfold S.CallsIn; rw [show (S.CallsIn_l1 a x L FUEL 0 0) = some r from hr]; rfl
  have hM : M.CallsIn a x L = some r := by unfold M.CallsIn; rw [show (M.CallsIn_l1 a x L FUEL 0 0) = some r from h1 ▸ hr]; rfl
  have hc : cnt a x L = r := by unfold cnt; rw [hS]; rfl
  rw [hc]; exact ⟨hS, hM⟩
def okC (a : List Int) (w : Int × Int) (i : Nat) : Bool := !decide (w.2 < cnt a (nth a i) w.1)
def okW (w : Int × Int) : Bool := (decide (1 ≤ w.1) && decide (w.1 ≤ 100)) && (decide (1 ≤ w.2) && decide (w.2 ≤ 99))
theorem Window_S (w : Int × Int) : S.IsWindow w = some (okW w) := by
  unfold S.IsWindow okW; rw [inS, inS]
  by_cases h : (decide (1 ≤ w.1) && decide (w.1 ≤ 100)) = true <;> simp [h]
theorem Window_M (w : Int × Int) : M.IsWindow w = some (okW w) := by
  unfold M.IsWindow okW; rw [inM, inM]
  by_cases h : (decide (1 ≤ w.1) && decide (w.1 ≤ 100)) = true <;> simp [h]
theorem okT_nn {a : List Int} {i : Nat} (h : okT a i = true) : 0 ≤ nth a i := by
  unfold okT at h; simp at h; exact h.1.1
open Classical in
theorem IsKept_S (a : List Int) (w : Int × Int) (ha : a.length ≤ 1048576) : S.IsKept a w = some (decide (∀ j, 0 ≤ j → j < a.length → okT a j = true) && decide (a.length ≤ 1000) && okW w && decide (∀ j, 0 ≤ j → j < a.length → okT a j = true ∧ okC a w j = true)) := by
  unfold S.IsKept
  rw [l18Times_eq a ha]
  by_cases hq : ∀ j, 0 ≤ j → j < a.length → okT a j = true
  · by_cases hl : a.length ≤ 1000
    · rw [decide_eq_true hq]
      simp only [hl, decide_true, Bool.and_true, Bool.true_and, Option.bind_some, Bool.not_true, Bool.false_eq_true, if_false, Window_S]
      cases hw : okW w
      · simp [hw]
      · have hw' : okW (w.1, w.2) = true := hw
        simp only [hw', Bool.not_true, Bool.false_eq_true, if_false]
        have h := all_loop (S.IsKept_l1 a w) (fun i => okT a i && okC a w i) a.length (fun k => by rw [S.IsKept_l1, if_neg (by simp)]) (fun k i hi => by
          have hn := okT_nn (hq i (by omega) hi)
          rw [S.IsKept_l1, if_pos (by simpa using hi), idx_nth a hi, Option.bind_some, (CallsIn_S a ha _ _ hn).1, Option.bind_some, w64_succ (by omega)]
          unfold okC
          rw [hq i (by omega) hi, Bool.true_and]
          by_cases h3 : w.2 < cnt a (nth a i) w.1 <;> simp [h3]) FUEL 0 (by omega) (by rw [FUEL_eq]; omega)
        rw [show (0 : Int) = ((0 : Nat) : Int) from rfl, h]
        by_cases hc : ∀ j, 0 ≤ j → j < a.length → (okT a j && okC a w j) = true
        · rw [if_pos hc, Option.bind_some]
          have hc' : ∀ j, 0 ≤ j → j < a.length → okT a j = true ∧ okC a w j = true := fun j h1 h2 => by simpa using hc j h1 h2
          rw [decide_eq_true hc']; simp
        · rw [if_neg hc, Option.bind_some]
          have hc' : ¬ ∀ j, 0 ≤ j → j < a.length → okT a j = true ∧ okC a w j = true := fun h => hc fun j h1 h2 => by simpa using h j h1 h2
          rw [decide_eq_false hc']; simp
    · simp [hl]
  · rw [decide_eq_false hq]; simp
open Classical in
theorem IsKept_M (a : List Int) (w : Int × Int) (ha : a.length ≤ 1048576) : M.IsKept a w = some (decide (a.length ≤ 1000) && okW w && decide (∀ j, 0 ≤ j → j < a.length → okT a j = true ∧ okC a w j = true)) := by
  unfold M.IsKept
  by_cases hl : a.length ≤ 1000
  · rw [if_neg (by simp; omega), Window_M]
    cases hw : okW w
    · have hw' : okW (w.1, w.2) = false := hw
      simp [hw']
    · have hw' : okW (w.1, w.2) = true := hw
      simp only [hw', Option.bind_some, Bool.not_true, Bool.false_eq_true, if_false, hl, decide_true, Bool.true_and]
      have h := all_loop (M.IsKept_l1 a w) (fun i => okT a i && okC a w i) a.length (fun k => by rw [M.IsKept_l1, if_neg (by simp)]) (fun k i hi => by
        rw [M.IsKept_l1, if_pos (by simpa using hi), idx_nth a hi]
        unfold M.isTime
        simp only [Option.bind_some, inM, w64_succ (show i < 4294967296 by omega)]
        unfold okC okT
        by_cases h1 : 0 ≤ nth a i
        · rw [(CallsIn_S a ha (nth a i) w.1 h1).2]
          by_cases h2 : nth a i ≤ 10000 <;> by_cases h3 : 0 < i
          · rw [w64_pred h3 (by omega), idx_nth a (show i - 1 < a.length by omega)]
            by_cases h4 : nth a i < nth a (i - 1) <;> by_cases h5 : w.2 < cnt a (nth a i) w.1 <;> simp [h1, h2, h3, h4, h5, pos_cast]
          · by_cases h5 : w.2 < cnt a (nth a i) w.1 <;> simp [h1, h2, h3, h5, pos_cast]
          · simp [h1, h2, h3, pos_cast]
          · simp [h1, h2, h3, pos_cast]
        · simp [h1]) FUEL 0 (by omega) (by rw [FUEL_eq]; omega)
      rw [show (0 : Int) = ((0 : Nat) : Int) from rfl, h]
      by_cases hc : ∀ j, 0 ≤ j → j < a.length → (okT a j && okC a w j) = true
      · rw [if_pos hc, Option.bind_some]
        have hc' : ∀ j, 0 ≤ j → j < a.length → okT a j = true ∧ okC a w j = true := fun j h1 h2 => by simpa using hc j h1 h2
        rw [decide_eq_true hc']
      · rw [if_neg hc, Option.bind_some]
        have hc' : ¬ ∀ j, 0 ≤ j → j < a.length → okT a j = true ∧ okC a w j = true := fun h => hc fun j h1 h2 => by simpa using h j h1 h2
        rw [decide_eq_false hc']
  · rw [if_pos (by simp; omega)]
    simp [hl]
open Classical in
theorem IsKept_same (a : List Int) (w : Int × Int) (ha : a.length ≤ 1048576) : ∃ b, S.IsKept a w = some b ∧ M.IsKept a w = some b ∧ (b = true → okW w = true) := by
  have h1 := IsKept_S a w ha
  have h2 := IsKept_M a w ha
  have e : (decide (∀ j, 0 ≤ j → j < a.length → okT a j = true) && decide (a.length ≤ 1000) && okW w && decide (∀ j, 0 ≤ j → j < a.length → okT a j = true ∧ okC a w j = true)) = (decide (a.length ≤ 1000) && okW w && decide (∀ j, 0 ≤ j → j < a.length → okT a j = true ∧ okC a w j = true)) := by
    by_cases hc : ∀ j, 0 ≤ j → j < a.length → okT a j = true ∧ okC a w j = true
    · have hq : ∀ j, 0 ≤ j → j < a.length → okT a j = true := fun j h1 h2 => (hc j h1 h2).1
      rw [decide_eq_true hq, Bool.true_and]
    · rw [decide_eq_false hc, Bool.and_false, Bool.and_false]
  refine ⟨_, h1.trans (congrArg some e), h2, fun h => ?_⟩
  simp only [Bool.and_eq_true] at h
  exact h.1.2
theorem next_end (x : Int) : ∃ r : Int × Bool, (if decide (10000 < x) = true then some (0, false) else some (x, true)) = some r ∧ ((if decide (10000 < x) = true then some (0, false) else some (x, true)).bind fun x4 : Int × Bool => some (x4.1, x4.2)) = some r := by
  by_cases h : decide (10000 < x) = true
  · rw [if_pos h]; exact ⟨_, rfl, rfl⟩
  · rw [if_neg h]; exact ⟨_, rfl, rfl⟩
theorem p_FnExactNextTime (a1 : List Int) (a2 : Int × Int) (a3 : Int) (h1 : Rng.r a1) (h2 : Rng.r a2) (h3 : Rng.r a3) : Q.FnExactNextTime a1 a2 a3 = some true := by
  unfold Q.FnExactNextTime
  by_cases hc : 1048576 < (List.length a1 : Int)
  · rw [if_pos (by simpa using hc)]
  · rw [if_neg (by simpa using hc)]
    have ha : a1.length ≤ 1048576 := by omega
    rw [toIntS_id a1 ha]
    have key : ∃ r, S.NextTime a1 (a2.1, a2.2) a3 = some r ∧ M.NextTime a1 (a2.1, a2.2) a3 = some r := by
      unfold S.NextTime M.NextTime M.isTime
      obtain ⟨b, hS, hM, hb⟩ := IsKept_same a1 (a2.1, a2.2) ha
      rw [hS, hM, inS, inM]
      cases b
      · exact ⟨(0, false), by simp, by simp⟩
      · have hw := hb rfl
        unfold okW at hw
        simp at hw
        by_cases ht : (decide (0 ≤ a3) && decide (a3 ≤ 10000)) = true
        · simp only [ht, Option.bind_some, Bool.not_true, Bool.false_eq_true, if_false]
          unfold M.Window_next
          by_cases hl : 0 < a1.length
          · have e1 : w64 ((List.length a1 : Int) - 1) = ((a1.length - 1 : Nat) : Int) := w64_pred hl (by omega)
            rw [if_pos (by simpa using hl), e1, idx_nth a1 (by omega)]
            simp only [Option.bind_some]
            by_cases hm : a2.2 ≤ (List.length a1 : Int)
            · have e2 : w64 ((List.length a1 : Int) - a2.2) = ((a1.length - a2.2.toNat : Nat) : Int) := by rw [w64_id (by omega) (by omega)]; omega
              simp only [hm, decide_true, if_true, e2, idx_nth a1 (show a1.length - a2.2.toNat < a1.length by omega), Option.bind_some]
              exact next_end _
            · simp only [hm, decide_false, Bool.false_eq_true, if_false, Option.bind_some]
              exact next_end _
          · have hm : ¬ a2.2 ≤ (List.length a1 : Int) := by omega
            rw [if_neg (by simpa using hl)]
            simp only [hm, decide_false, Bool.false_eq_true, if_false, Option.bind_some]
            exact next_end _
        · simp only [ht, Option.bind_some, Bool.not_false, if_true, Bool.not_true, Bool.false_eq_true, if_false]
          exact ⟨_, rfl, rfl⟩
    obtain ⟨r, hS, hM⟩ := key
    simp only [Q.toWindow, Option.bind_some, hS, hM, eqIntS_refl a1 ha]
    simp
end Go.Gx.Px
