/- Plain laws: elements that are taken out. Conditions: none. -/
import Derived.Test.YtceapjnnikegoaaPlL
set_option linter.unusedVariables false
set_option linter.unusedSimpArgs false
namespace Go.Gx.Px
theorem dfl_eq {α : Type} (del : α → Option Bool) (q : α → Bool) : ∀ (rest kept : List α), (∀ e ∈ rest, del e = some (q e)) → dfl del kept rest = some (kept ++ rest.filter (fun e => !q e))
  | [], kept, _ => by simp [dfl]
  | v :: rest, kept, h => by
    unfold dfl
    rw [h v (List.mem_cons_self ..), Option.bind_some, dfl_eq del q rest _ (fun e he => h e (List.mem_cons_of_mem _ he)), List.filter_cons]
    cases q v <;> simp
theorem delete_eq {α : Type} (del : α → Option Bool) (q : α → Bool) (a : List α) (h : ∀ e ∈ a, del e = some (q e)) :
    (if fidx q a 0 = -1 then some a else if 0 ≤ fidx q a 0 ∧ fidx q a 0 < (a.length : Int) then dfl del (a.take (fidx q a 0).toNat) (a.drop ((fidx q a 0).toNat + 1)) else none) = some (a.filter (fun e => !q e)) := by
  rcases fidx_spec q a 0 with ⟨h1, h2⟩ | ⟨j, hj, h1, h2, h3⟩
  · rw [if_pos h1]
    congr 1
    symm
    rw [List.filter_eq_self]
    intro e he
    rw [List.any_eq_false] at h2
    simpa using h2 e he
  · rw [if_neg (by omega), if_pos (by omega), show (fidx q a 0).toNat = j by omega, dfl_eq del q _ _ (fun e he => h e (List.mem_of_mem_drop he))]
    congr 1
    have e1 : (a.take j).filter (fun e => !q e) = a.take j := by
      rw [List.filter_eq_self]
      intro e he
      obtain ⟨k, hk, rfl⟩ := List.getElem_of_mem he
      rw [List.length_take] at hk
      simpa using h3 k (by omega)
    conv => rhs; rw [← List.take_append_drop j a, List.drop_eq_getElem_cons hj, List.filter_append, e1, List.filter_cons]
    simp [h2]
end Go.Gx.Px
