/- Plain laws: ranges, appending. Conditions: none. -/
import Derived.Test.YtnlaijbfggelfaaPlInt
set_option linter.unusedVariables false
set_option linter.unusedSimpArgs false
namespace Go.Gx.Px
theorem inS (a b c : Int) : S.l1In a b c = some (decide (b ≤ a) && decide (a ≤ c)) := by
  unfold S.l1In
  by_cases h : b ≤ a <;> simp [h]
theorem inM (a b c : Int) : M.within a b c = some (decide (b ≤ a) && decide (a ≤ c)) := by
  unfold M.within
  by_cases h : b ≤ a <;> simp [h]
theorem app_eq {α : Type} (a b : List α) (h : a.length + b.length ≤ 4294967296) : app a b = some (a ++ b) := by
  unfold app; rw [if_pos (by rw [LIM_eq]; exact h)]
/-- a list that is built by appending what each element gives -/
theorem map_loop {α β : Type} (f : Nat → List β → Int → Option (List β)) (a : List α) (g : α → β) (hn : a.length ≤ 4294967296) (he : ∀ k x, f (k + 1) x (a.length : Int) = some x)
    (hs : ∀ k (x : List β) (i : Nat) (hi : i < a.length), x.length = i → f (k + 1) x (i : Int) = f k (x ++ [g a[i]]) ((i + 1 : Nat) : Int)) : f FUEL [] 0 = some (a.map g) := by
  obtain ⟨k, s', h1, rfl⟩ := loop_inv0 f (fun i x => x = (a.take i).map g) a.length hn [] (by simp) (fun k i x hi hx => ⟨_, hs k x i hi (by rw [hx]; simp; omega), by
    rw [hx, List.take_add_one, List.getElem?_eq_getElem hi, List.map_append]; rfl⟩)
  rw [h1, he, List.take_length]
end Go.Gx.Px
