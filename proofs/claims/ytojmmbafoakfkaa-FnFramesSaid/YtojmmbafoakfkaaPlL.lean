/- Plain laws: ranges, appending, loops over lists that look for something. Conditions: none. -/
import Derived.Test.YtojmmbafoakfkaaPl0
set_option linter.unusedVariables false
set_option linter.unusedSimpArgs false
namespace Go.Gx.Px
def inR (a b c : Int) : Bool := decide (b ≤ a) && decide (a ≤ c)
theorem inR_iff {a b c : Int} : inR a b c = true ↔ b ≤ a ∧ a ≤ c := by unfold inR; simp
theorem app_eq {α : Type} (a b : List α) (h : a.length + b.length ≤ 4294967296) : app a b = some (a ++ b) := by
  unfold app; rw [if_pos (by rw [LIM_eq]; exact h)]
/-- a loop that stops at the first element that is not as it should be -/
theorem all_loop {α β : Type} (f : Nat → Int → Option (Sum Unit β)) (a : List α) (q : α → Bool) (b : β) (hn : a.length ≤ 4294967296) (he : ∀ k, f (k + 1) (a.length : Int) = some (.inl ()))
    (hs : ∀ k (i : Nat) (hi : i < a.length), f (k + 1) (i : Int) = if q a[i] then f k ((i + 1 : Nat) : Int) else some (.inr b)) : f FUEL 0 = some (if a.all q then .inl () else .inr b) := by
  have key : ∀ (K i : Nat), i ≤ a.length → a.length < i + K → f K (i : Int) = some (if (a.drop i).all q then .inl () else .inr b) := by
    intro K
    induction K with
    | zero => intro i h1 h2; omega
    | succ K ih =>
      intro i h1 h2
      by_cases hi : i < a.length
      · rw [hs K i hi, List.drop_eq_getElem_cons hi, List.all_cons]
        cases hq : q a[i]
        · simp
        · simp only [if_true, Bool.true_and]
          exact ih (i + 1) (by omega) (by omega)
      · obtain rfl : i = a.length := by omega
        rw [he]; simp
  have := key FUEL 0 (by omega) (by rw [FUEL_eq]; omega)
  simpa using this
def catS (a b : Str) : Str := List.append a b
theorem catS_len (a b : Str) : List.length (catS a b) = List.length a + List.length b := List.length_append
theorem cat_ok (a b : Str) (h : List.length a + List.length b ≤ 4294967296) : cat a b = some (catS a b) :=
  if_pos (by rw [LIM_eq]; exact h)
end Go.Gx.Px
