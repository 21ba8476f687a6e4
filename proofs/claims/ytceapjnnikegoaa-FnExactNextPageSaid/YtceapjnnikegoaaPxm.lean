/- Plain laws: the facts that fit, as the reference lists them. Conditions: none. -/
import Derived.Test.YtceapjnnikegoaaPmm
import Derived.Test.YtceapjnnikegoaaPone
set_option linter.unusedVariables false
set_option linter.unusedSimpArgs false
namespace Go.Gx.Px
theorem flat_filter {α : Type} (q : α → Bool) : ∀ l : List α, l.flatMap (fun e => if q e then [e] else []) = l.filter q
  | [] => rfl
  | a :: l => by
    rw [List.flatMap_cons, flat_filter q l, List.filter_cons]
    cases q a <;> rfl
theorem filter_flat_len {α : Type} (q : α → Bool) (l : List α) (i : Nat) : ((l.take i).flatMap (fun e => if q e then [e] else [])).length ≤ l.length := by
  rw [flat_filter]
  have := List.length_filter_le q (l.take i)
  rw [List.length_take] at this; omega
theorem l5Matches_S (m : Me) (v : List Int) (l : List Fa) (hl : SZ.sm l) (h : ∀ f ∈ l, Fit m v f) : S.l5Matches m v l = some (l.filter (fitsF m v)) := by
  have hn := hl.1
  unfold S.l5Matches
  rw [flat_loop (S.l5Matches_l1 l m v) l (fun e => if fitsF m v e then [e] else []) (by omega) (fun k x => by rw [S.l5Matches_l1, if_neg (by simp)]) (fun k x i hi hx => by
    have e1 := l5Fits_S m v l[i] (h _ (List.getElem_mem hi))
    have hlen := filter_flat_len (fitsF m v) l i
    rw [← hx] at hlen
    rw [S.l5Matches_l1, if_pos (by simpa using hi), idx_nat _ hi, show (m.1, m.2.1, m.2.2.1, m.2.2.2.1, m.2.2.2.2) = m from rfl, w64_succ (by omega)]
    simp only [Option.bind_some, e1]
    cases fitsF m v l[i]
    · simp
    · simp only [if_true, l2One_eq _ _ (hl.2 _ (List.getElem_mem hi)).2.1, Option.bind_some]
      rw [app_eq _ _ (by simp; omega)]
      rfl), flat_filter]
  rfl
theorem sm_filter {α : Type} [SZ α] {l : List α} (h : SZ.sm l) (q : α → Bool) : SZ.sm (l.filter q) :=
  ⟨by have := h.1; have := List.length_filter_le q l; omega, fun e he => h.2 e ((List.mem_filter.1 he).1)⟩
end Go.Gx.Px
