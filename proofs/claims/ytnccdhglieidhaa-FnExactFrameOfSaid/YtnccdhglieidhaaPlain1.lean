/- Plain laws of the pure functions: the check byte. Conditions: none. -/
import Derived.Test.YtnccdhglieidhaaPure
import Derived.Test.YtnccdhglieidhaaGxG
set_option linter.unusedVariables false
set_option linter.unusedSimpArgs false
namespace Go.Gx.Px

theorem idx_get {α : Type} (l : List α) {i : Int} (h0 : 0 ≤ i) (h1 : i < (List.length l : Int)) : ∃ (h : i.toNat < l.length), idx l i = some l[i.toNat] := by
  have h : i.toNat < l.length := by omega
  exact ⟨h, by unfold idx; rw [if_pos h0, List.getElem?_eq_getElem h]⟩
theorem CheckByte_same (a : Str) : ∀ (n : Nat) (x i : Int), S.CheckByte_l1 a n x i = M.CheckByte_l1 a n x i := by
  intro n
  induction n with
  | zero => intro x i; rfl
  | succ n ih =>
    intro x i
    rw [S.CheckByte_l1, M.CheckByte_l1]
    simp only [ih, Int.mul_comm x 31]
theorem CheckByte_ends (a : Str) (ha : List.length a ≤ 1048576) : ∀ (n : Nat) (x i : Int), 0 ≤ i → i ≤ (List.length a : Int) → (List.length a : Int) - i < n → ∃ r, S.CheckByte_l1 a n x i = some r := by
  intro n
  induction n with
  | zero => intro x i h0 h1 h; omega
  | succ n ih =>
    intro x i h0 h1 h
    rw [S.CheckByte_l1]
    by_cases hc : i < (List.length a : Int)
    · obtain ⟨_, hi⟩ := idx_get (α := UInt8) a h0 hc
      rw [if_pos (by simpa using hc), hi, Option.bind_some, w64_id (n := i + 1) (by omega) (by omega)]
      exact ih _ _ (by omega) (by omega) (by omega)
    · rw [if_neg (by simpa using hc)]; exact ⟨_, rfl⟩
theorem p_FnExactCheckByte (a1 : Str) (h : Rng.r a1) : Q.FnExactCheckByte a1 = some true := by
  unfold Q.FnExactCheckByte S.CheckByte M.CheckByte
  by_cases hc : 1048576 < (List.length a1 : Int)
  · rw [if_pos (by simpa using hc)]
  · rw [if_neg (by simpa using hc)]
    obtain ⟨r, hr⟩ := CheckByte_ends a1 (by omega) FUEL 7 0 (by omega) (by omega) (by rw [FUEL_eq]; omega)
    simp only [← CheckByte_same, hr, Option.bind_some]
    simp
end Go.Gx.Px
