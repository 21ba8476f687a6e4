/- Plain laws of the pure functions: ledgers. Conditions: none. -/
import Derived.Test.YtnccdhglieidhaaPlain4
set_option linter.unusedVariables false
set_option linter.unusedSimpArgs false
namespace Go.Gx.Px
def nthL (a : List Int) (i : Nat) : Int := a.getD i 0
theorem idx_nthL (a : List Int) {i : Nat} (h : i < a.length) : idx a (i : Int) = some (nthL a i) := by
  rw [idx_nat a h]; simp [nthL, h]
theorem inSL (a b c : Int) : S.l1In a b c = some (decide (b ≤ a) && decide (a ≤ c)) := by
  unfold S.l1In
  by_cases h : b ≤ a <;> simp [h]
theorem inML (a b c : Int) : M.within a b c = some (decide (b ≤ a) && decide (a ≤ c)) := by
  unfold M.within
  by_cases h : b ≤ a <;> simp [h]
theorem w64_predL {i : Nat} (h0 : 0 < i) (h : i < 4294967296) : w64 ((i : Int) - 1) = ((i - 1 : Nat) : Int) := by
  rw [w64_id (by omega) (by omega)]; omega
theorem pos_castL (i : Nat) : ((0 : Int) < (i : Int)) ↔ 0 < i := by omega
theorem search_loop (f : Nat → Int → Option (Sum Unit Int)) (p : Nat → Bool) (n : Nat) (hend : ∀ k, f (k + 1) (n : Int) = some (.inl ()))
    (hstep : ∀ k i, i < n → f (k + 1) (i : Int) = if p i then f k ((i + 1 : Nat) : Int) else some (.inr (i : Int))) :
    ∀ (k i : Nat), i ≤ n → n - i < k → ((∀ j, i ≤ j → j < n → p j = true) → f k (i : Int) = some (.inl ())) ∧ (¬ (∀ j, i ≤ j → j < n → p j = true) → ∃ j : Nat, f k (i : Int) = some (.inr (j : Int)))
  | 0, i, _, h => by omega
  | k + 1, i, hi, h => by
    by_cases hc : i < n
    · rw [hstep k i hc]
      by_cases hp : p i = true
      · rw [if_pos hp]
        obtain ⟨g1, g2⟩ := search_loop f p n hend hstep k (i + 1) (by omega) (by omega)
        refine ⟨fun h1 => g1 fun j h2 h3 => h1 j (by omega) h3, fun h1 => g2 fun h2 => h1 fun j h3 h4 => ?_⟩
        by_cases hj : j = i
        · subst hj; exact hp
        · exact h2 j (by omega) h4
      · rw [if_neg hp]
        exact ⟨fun h1 => absurd (h1 i (Nat.le_refl _) hc) hp, fun _ => ⟨i, rfl⟩⟩
    · have e : i = n := by omega
      subst e
      rw [hend k]
      exact ⟨fun _ => rfl, fun h1 => absurd (fun j h1 h2 => by omega) h1⟩
def okK (a : List Int) (i : Nat) : Bool := decide (0 ≤ nthL a i) && decide (nthL a i ≤ 1000000)
def okA (a : List Int) (i : Nat) : Bool := !(decide (0 < i) && decide (nthL a i ≤ nthL a (i - 1)))
def okN (b c : Int) : Bool := (decide (0 ≤ b) && decide (b ≤ 1000000000)) && (decide (0 ≤ c) && decide (c ≤ 1000000000))
open Classical in
theorem IsLedger_S (a : List Int) (b c : Int) (ha : a.length ≤ 1048576) : S.IsLedger (a, b, c) = some (decide (∀ j, 0 ≤ j → j < a.length → (okK a j && okA a j) = true) && okN b c) := by
  unfold S.IsLedger
  have h := all_loop (S.IsLedger_l1 (a, b, c)) (fun i => okK a i && okA a i) a.length (fun k => by rw [S.IsLedger_l1, if_neg (by simp)]) (fun k i hi => by
    rw [S.IsLedger_l1, if_pos (by simpa using hi), idx_nthL a hi]
    simp only [Option.bind_some, inSL, w64_succ (show i < 4294967296 by omega)]
    unfold okK okA
    by_cases h1 : 0 ≤ nthL a i <;> by_cases h2 : nthL a i ≤ 1000000 <;> by_cases h3 : 0 < i
    · rw [w64_predL h3 (by omega), idx_nthL a (show i - 1 < a.length by omega)]
      by_cases h4 : nthL a i ≤ nthL a (i - 1) <;> simp [h1, h2, h3, h4, pos_castL]
    all_goals simp [h1, h2, h3, pos_castL]) FUEL 0 (by omega) (by rw [FUEL_eq]; omega)
  rw [show (0 : Int) = ((0 : Nat) : Int) from rfl, h]
  by_cases hq : ∀ j, 0 ≤ j → j < a.length → (okK a j && okA a j) = true
  · rw [if_pos hq, Option.bind_some, decide_eq_true hq, Bool.true_and]
    dsimp only
    rw [inSL, inSL]
    unfold okN
    cases hd : (decide ((0 : Int) ≤ b) && decide (b ≤ 1000000000))
    · simp [hd]
    · simp [hd]
  · rw [if_neg hq, Option.bind_some, decide_eq_false hq, Bool.false_and]
open Classical in
theorem IsLedger_M (a : List Int) (b c : Int) (ha : a.length ≤ 1048576) : M.IsLedger (a, b, c) = some (decide (∀ j, 0 ≤ j → j < a.length → (okK a j && okA a j) = true) && okN b c) := by
  unfold M.IsLedger M.ascending
  have h := all_loop (M.ascending_l1 a) (okA a) a.length (fun k => by rw [M.ascending_l1, if_neg (by simp)]) (fun k i hi => by
    rw [M.ascending_l1, if_pos (by simpa using hi), idx_nthL a hi]
    simp only [Option.bind_some, w64_succ (show i < 4294967296 by omega)]
    unfold okA
    by_cases h3 : 0 < i
    · rw [w64_predL h3 (by omega), idx_nthL a (show i - 1 < a.length by omega)]
      by_cases h4 : nthL a i ≤ nthL a (i - 1) <;> simp [h3, h4, pos_castL]
    · simp [h3, pos_castL]) FUEL 0 (by omega) (by rw [FUEL_eq]; omega)
  obtain ⟨g1, g2⟩ := search_loop (Slices.IndexFunc_Lint_int_F82_l1 a) (okK a) a.length (fun k => by rw [Slices.IndexFunc_Lint_int_F82_l1, if_neg (by simp)]) (fun k i hi => by
    rw [Slices.IndexFunc_Lint_int_F82_l1, if_pos (by simpa using hi), idx_nthL a hi]
    simp only [Option.bind_some, M.IsLedger_c1, M.isKey, inML, w64_succ (show i < 4294967296 by omega)]
    unfold okK
    by_cases h1 : 0 ≤ nthL a i <;> by_cases h2 : nthL a i ≤ 1000000 <;> simp [h1, h2]) FUEL 0 (by omega) (by rw [FUEL_eq]; omega)
  rw [show (0 : Int) = ((0 : Nat) : Int) from rfl] at *
  rw [h]
  by_cases hA : ∀ j, 0 ≤ j → j < a.length → okA a j = true
  · rw [if_pos hA]
    by_cases hK : ∀ j, 0 ≤ j → j < a.length → okK a j = true
    · have hq : ∀ j, 0 ≤ j → j < a.length → (okK a j && okA a j) = true := fun j h1 h2 => by rw [hK j h1 h2, hA j h1 h2]; rfl
      have e : Slices.ContainsFunc_Lint_int_F82 a = some false := by
        unfold Slices.ContainsFunc_Lint_int_F82 Slices.IndexFunc_Lint_int_F82
        rw [show Slices.IndexFunc_Lint_int_F82_l1 a FUEL 0 = _ from g1 hK]; rfl
      rw [decide_eq_true hq]
      simp only [Option.bind_some, e, inML, if_true, Bool.not_false, Bool.true_and]
      unfold okN
      cases hd : (decide ((0 : Int) ≤ b) && decide (b ≤ 1000000000)) <;> simp [hd]
    · have hq : ¬ ∀ j, 0 ≤ j → j < a.length → (okK a j && okA a j) = true := fun h0 => hK fun j h1 h2 => by have := h0 j h1 h2; simp at this; exact this.1
      obtain ⟨j, hj⟩ := g2 hK
      have e : Slices.ContainsFunc_Lint_int_F82 a = some true := by
        unfold Slices.ContainsFunc_Lint_int_F82 Slices.IndexFunc_Lint_int_F82
        rw [show Slices.IndexFunc_Lint_int_F82_l1 a FUEL 0 = _ from hj]
        simp
      rw [decide_eq_false hq]
      simp [e]
  · have hq : ¬ ∀ j, 0 ≤ j → j < a.length → (okK a j && okA a j) = true := fun h0 => hA fun j h1 h2 => by have := h0 j h1 h2; simp at this; exact this.2
    rw [if_neg hA, decide_eq_false hq]
    simp
theorem rng_len {α : Type} [Rep α] [Rng α] {l : List α} (h : Rng.r l) : (l.length : Int) ≤ 9223372036854775807 := by
  have := h.1
  simp only [maxLen] at this
  omega
theorem p_FnExactIsLedger (a1 : List Int × Int × Int) (h : Rng.r a1) : Q.FnExactIsLedger a1 = some true := by
  obtain ⟨a, b, c⟩ := a1
  have hlen : (a.length : Int) ≤ 9223372036854775807 := rng_len h.1
  unfold Q.FnExactIsLedger Q.szLedger Q.szIntS
  dsimp only
  by_cases hc : 1048576 < a.length
  · rw [w64_id (by omega) (by omega)]
    have h1 : (1048576 : Int) - (a.length : Int) < 0 := by omega
    simp [h1]
  · have h1 : ¬ ((1048576 : Int) - (a.length : Int) < 0) := by omega
    rw [w64_id (by omega) (by omega)]
    have ha : a.length ≤ 1048576 := by omega
    simp only [h1, decide_false, Bool.false_eq_true, if_false, Option.bind_some, Q.toLedger, toIntS_id a ha, IsLedger_S a b c ha, IsLedger_M a b c ha, Q.eqLedger, eqIntS_refl a ha]
    simp
end Go.Gx.Px
