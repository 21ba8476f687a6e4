/- Plain laws: lists of pages. Conditions: none. -/
import Derived.Test.YtnccdhglieidhaaPb
set_option linter.unusedVariables false
set_option linter.unusedSimpArgs false
namespace Go.Gx.Px
theorem PagesOf_loop (a : List Fa) (n : Int) (h : SZ.sm a) (hn : inR n 1 9 = true) : ∀ (k : Nat) (out : List (List Fa)) (o : Nat), o ≤ a.length → a.length - o < k → out.length + (a.length - o) ≤ 1048576 ∧ out.length + 1 ≤ 1048576 → SZ.sm out →
    ∃ r, S.PagesOf_l1 a n k out (o : Int) = some (.inr r) ∧ M.PagesOf_l1 a n k out (o : Int) = some (.inr r) ∧ SZ.sm r
  | 0, out, o, _, h2, _, _ => by omega
  | k + 1, out, o, h1, h2, h3, h4 => by
    rw [S.PagesOf_l1, M.PagesOf_l1, (PageAt_eq a o n h).1, (PageAt_eq a o n h).2]
    have hin : inR (o : Int) 0 (List.length a : Int) = true := inR_iff.2 (by omega)
    have hp : SZ.sm (pageOf a o n) := pageOf_sm a o n h
    unfold pageOf at hp ⊢
    rw [hn, hin] at hp ⊢
    simp only [Bool.and_self, if_true, Option.bind_some, Bool.not_true, Bool.false_eq_true, if_false] at hp ⊢
    have hol := h4.1
    rw [app_eq _ _ (by simp; omega)]
    simp only [Option.bind_some]
    have hsm : SZ.sm (out ++ [(a.take (pageEnd a o n).toNat).drop (o : Int).toNat]) := ⟨by simp; omega, fun e he => by
      rcases List.mem_append.1 he with he | he
      · exact h4.2 e he
      · simp at he; subst he; exact hp.1⟩
    rw [inR_iff] at hn
    by_cases he : pageEnd a o n = (List.length a : Int)
    · rw [if_pos (by simpa using he), if_pos (by simpa using he)]
      exact ⟨_, rfl, rfl, hsm⟩
    · rw [if_neg (by simpa using he), if_neg (by simpa using he)]
      have e2 : pageEnd a o n = ((o + n.toNat : Nat) : Int) := by unfold pageEnd at he ⊢; split at he <;> rename_i hh <;> simp [hh] at he ⊢; omega
      have e3 : (o : Int) + n < List.length a := by unfold pageEnd at he; split at he; assumption; exact absurd rfl he
      rw [e2]
      rw [e2] at hsm
      exact PagesOf_loop a n h (inR_iff.2 hn) k _ (o + n.toNat) (by omega) (by omega) (by simp; omega) hsm
theorem same_PagesOf (a : List Fa) (n : Int) (z : SZ.sz a ≤ 1048576) (_ : SZ.sz n ≤ 1048576) (_ : Rng.r a) (_ : Rng.r n) : ∃ r, S.PagesOf a n = some r ∧ M.PagesOf a n = some r ∧ SZ.sm r := by
  have h := sm_of z
  unfold S.PagesOf M.PagesOf
  rw [inS]
  cases hn : inR n 1 9
  · refine ⟨[], rfl, ?_, sm_nil⟩
    rw [fuel_succ, M.PagesOf_l1, (PageAt_eq a 0 n h).2]
    unfold pageOf; rw [hn]; rfl
  · have hl := h.1
    obtain ⟨r, h1, h2, h3⟩ := PagesOf_loop a n h hn FUEL [] 0 (by omega) (by rw [FUEL_eq]; omega) ⟨by simp; omega, by simp⟩ sm_nil
    exact ⟨r, by rw [show (0 : Int) = ((0 : Nat) : Int) from rfl, h1]; rfl, by rw [show (0 : Int) = ((0 : Nat) : Int) from rfl, h2]; rfl, h3⟩
theorem szs_append {α : Type} [SZ α] : ∀ (a b : List α), szs (a ++ b) = szs a + szs b
  | [], b => by simp [szs]
  | x :: a, b => by simp only [List.cons_append, szs, szs_append a b]; omega
theorem sz_append {α : Type} [SZ α] (a b : List α) : SZ.sz (a ++ b) = SZ.sz a + SZ.sz b := by
  show (a ++ b).length + szs (a ++ b) = a.length + szs a + (b.length + szs b)
  rw [szs_append, List.length_append]; omega
theorem szs_cons {α : Type} [SZ α] (a : α) (l : List α) : szs (a :: l) = SZ.sz a + szs l := rfl
theorem sz_flatten {α : Type} [SZ α] : ∀ (a : List (List α)), SZ.sz a.flatten ≤ szs a
  | [] => Nat.le_refl _
  | x :: a => by rw [List.flatten_cons, sz_append, szs_cons]; have := sz_flatten a; omega
theorem sz_len {α : Type} [SZ α] (a : List α) : SZ.sz a = a.length + szs a := rfl
theorem szs_take {α : Type} [SZ α] (a : List α) (i : Nat) : szs (a.take i) ≤ szs a := by
  conv => rhs; rw [← List.take_append_drop i a, szs_append]
  omega
theorem Join_loop (f : Nat → List Fa → Int → Option (List Fa)) (a : List (List Fa)) (z : SZ.sz a ≤ 1048576) (he : ∀ k x, f (k + 1) x (a.length : Int) = some x)
    (hs : ∀ k (x : List Fa) (i : Nat) (hi : i < a.length), SZ.sm a[i] → f (k + 1) x (i : Int) = (app x a[i]).bind fun y => f k y (w64 ((i : Int) + 1))) : f FUEL [] 0 = some a.flatten := by
  have hz : a.length + szs a ≤ 1048576 := z
  rw [flat_loop f a id (by omega) he (fun k x i hi hx => by
    rw [hs k x i hi ((sm_of z).2 _ (List.getElem_mem hi))]
    have h1 : x = (a.take i).flatten := by rw [hx]; simp [List.flatMap_id]
    have h2 : (x ++ a[i]).length ≤ 1048576 := by
      have h3 := sz_flatten (a.take (i + 1))
      rw [List.take_add_one, List.getElem?_eq_getElem hi, List.flatten_append, ← h1] at h3
      have h4 := szs_take a (i + 1)
      rw [List.take_add_one, List.getElem?_eq_getElem hi] at h4
      have h5 := sz_len (x ++ a[i])
      simp at h3 h4
      omega
    rw [app_eq _ _ (by simp at h2; omega), Option.bind_some, w64_succ (by omega)]; rfl)]
  simp [List.flatMap_id]
theorem same_JoinPages (a : List (List Fa)) (z : SZ.sz a ≤ 1048576) (_ : Rng.r a) : ∃ r, S.JoinPages a = some r ∧ M.JoinPages a = some r ∧ SZ.sm r := by
  refine ⟨a.flatten, ?_, ?_, sm_of (Nat.le_trans (sz_flatten a) (by have := sz_len a; omega))⟩
  · unfold S.JoinPages
    rw [Join_loop (S.JoinPages_l1 a) a z (fun k x => by rw [S.JoinPages_l1, if_neg (by simp)]) (fun k x i hi hm => by
      rw [S.JoinPages_l1, if_pos (by simpa using hi), idx_nat a hi, Option.bind_some, l2Copy_id _ hm, Option.bind_some])]; rfl
  · unfold M.JoinPages
    rw [Join_loop (M.JoinPages_l1 a) a z (fun k x => by rw [M.JoinPages_l1, if_neg (by simp)]) (fun k x i hi hm => by
      rw [M.JoinPages_l1, if_pos (by simpa using hi), idx_nat a hi, Option.bind_some, copyFacts_id _ hm, Option.bind_some])]; rfl
end Go.Gx.Px
