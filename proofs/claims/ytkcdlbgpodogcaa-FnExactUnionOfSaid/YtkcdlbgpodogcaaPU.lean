/- Plain laws: all facts that were told of; cursors that are opened. Conditions: none. -/
import Derived.Test.YtkcdlbgpodogcaaPf
set_option linter.unusedVariables false
set_option linter.unusedSimpArgs false
namespace Go.Gx.Px
def addAll (l acc : List Fa) : List Fa := l.foldl (fun acc e => addF acc e) acc
def unF (l : List ((Int × List Int) × List Fa)) (acc : List Fa) : List Fa := l.foldl (fun acc t => addAll t.2 acc) acc
theorem addAll_sm (l acc : List Fa) (hl : SZ.sm l) (ha : SZ.sm acc) (hn : acc.length + l.length ≤ 1048576) : SZ.sm (addAll l acc) ∧ (addAll l acc).length ≤ acc.length + l.length := by
  induction l generalizing acc with
  | nil => exact ⟨ha, by simp [addAll]⟩
  | cons e l ih =>
    have he := hl.2 e (List.mem_cons_self ..)
    have hl' : SZ.sm l := ⟨by have := hl.1; simp at this; omega, fun x hx => hl.2 x (List.mem_cons_of_mem _ hx)⟩
    have h1 := addF_len acc e
    simp only [List.length_cons] at hn
    obtain ⟨h2, h3⟩ := ih (addF acc e) hl' (sm_add ha he (by omega)) (by omega)
    exact ⟨h2, by show (addAll l (addF acc e)).length ≤ _; rw [List.length_cons]; omega⟩
/-- facts are put into a list one after the other -/
theorem add_loop (f : Nat → List Fa → Int → Option (List Fa)) (a acc : List Fa) (ha : SZ.sm a) (hacc : SZ.sm acc) (hn : acc.length + a.length ≤ 1048576) (he : ∀ k x, f (k + 1) x (a.length : Int) = some x)
    (hs : ∀ k (x : List Fa) (i : Nat) (hi : i < a.length), SZ.sm x → f (k + 1) x (i : Int) = f k (addF x a[i]) ((i + 1 : Nat) : Int)) : f FUEL acc 0 = some (addAll a acc) := by
  have hl := ha.1
  obtain ⟨k, s', h1, rfl⟩ := loop_inv0 f (fun i x => x = addAll (a.take i) acc) a.length (by omega) acc rfl (fun k i x hi hx => by
    have hsm : SZ.sm x := by
      rw [hx]
      exact (addAll_sm (a.take i) acc ⟨by rw [List.length_take]; omega, fun e he => ha.2 e (List.mem_of_mem_take he)⟩ hacc (by rw [List.length_take]; omega)).1
    refine ⟨_, hs k x i hi hsm, ?_⟩
    rw [hx]; unfold addAll; rw [List.take_add_one, List.getElem?_eq_getElem hi, List.foldl_append]; rfl)
  rw [h1, he, List.take_length]
theorem unF_sm (l : List ((Int × List Int) × List Fa)) : ∀ acc : List Fa, SZ.sm acc → acc.length + szs l ≤ 1048576 → (∀ t ∈ l, SZ.sm t) → SZ.sm (unF l acc) ∧ (unF l acc).length ≤ acc.length + szs l := by
  induction l with
  | nil => intro acc h _ _; exact ⟨h, by simp [unF]⟩
  | cons t l ih =>
    intro acc ha hn hm
    have hz : szs (t :: l) = SZ.sz t + szs l := rfl
    have ht : SZ.sz t = SZ.sz t.1 + (t.2.length + szs t.2) := rfl
    obtain ⟨h1, h2⟩ := addAll_sm t.2 acc (hm t (List.mem_cons_self ..)).2 ha (by omega)
    obtain ⟨h3, h4⟩ := ih (addAll t.2 acc) h1 (by omega) (fun x hx => hm x (List.mem_cons_of_mem _ hx))
    exact ⟨h3, by show (unF l (addAll t.2 acc)).length ≤ _; omega⟩
theorem szs_takeT {α : Type} [SZ α] (a : List α) : ∀ i, szs (a.take i) ≤ szs a := by
  induction a with
  | nil => intro i; simp
  | cons x a ih =>
    intro i
    cases i with
    | zero => simp [szs]
    | succ i => have := ih i; simp only [List.take_succ_cons, szs]; omega
theorem szs_get {α : Type} [SZ α] (a : List α) : ∀ i (h : i < a.length), szs (a.take i) + SZ.sz a[i] ≤ szs a := by
  induction a with
  | nil => intro i h; simp at h
  | cons x a ih =>
    intro i h
    cases i with
    | zero => simp [szs]
    | succ i => have := ih i (by simpa using h); simp only [List.take_succ_cons, szs, List.getElem_cons_succ]; omega
/-- all answers, one after the other -/
theorem un_loop (f : Nat → List Fa → Int → Option (List Fa)) (a : List ((Int × List Int) × List Fa)) (z : SZ.sz a ≤ 1048576) (he : ∀ k x, f (k + 1) x (a.length : Int) = some x)
    (hs : ∀ k (x : List Fa) (i : Nat) (hi : i < a.length), SZ.sm x → x.length + a[i].2.length ≤ 1048576 → f (k + 1) x (i : Int) = f k (addAll a[i].2 x) ((i + 1 : Nat) : Int)) : f FUEL [] 0 = some (unF a []) := by
  have hl : a.length + szs a ≤ 1048576 := z
  have hm := sm_of z
  obtain ⟨k, s', h1, rfl⟩ := loop_inv0 f (fun i x => x = unF (a.take i) []) a.length (by omega) [] (by simp [unF]) (fun k i x hi hx => by
    have h5 := szs_takeT a i
    have h6 := szs_get a i hi
    obtain ⟨h7, h8⟩ := unF_sm (a.take i) [] sm_nil (by simp; omega) (fun t ht => hm.2 t (List.mem_of_mem_take ht))
    have ht : SZ.sz a[i] = SZ.sz a[i].1 + (a[i].2.length + szs a[i].2) := rfl
    refine ⟨_, hs k x i hi (hx ▸ h7) (by rw [hx]; simp at h8; omega), ?_⟩
    rw [hx]; unfold unF; rw [List.take_add_one, List.getElem?_eq_getElem hi, List.foldl_append]; rfl)
  rw [h1, he, List.take_length]
theorem UnionOf_S (l : List ((Int × List Int) × List Fa)) (z : SZ.sz l ≤ 1048576) : S.UnionOf l = some (unF l []) := by
  have hm := sm_of z
  unfold S.UnionOf
  rw [un_loop (S.UnionOf_l1 l) l z (fun k x => by rw [S.UnionOf_l1, if_neg (by simp)]) (fun k x i hi hx hn => by
    have hti := (hm.2 _ (List.getElem_mem hi)).2
    rw [S.UnionOf_l1, if_pos (by simpa using hi), add_loop (S.UnionOf_l2 l i) l[i].2 x hti hx hn (fun k x => by rw [S.UnionOf_l2, idx_nat l hi, Option.bind_some, if_neg (by simp)]) (fun k x j hj hx => by
      rw [S.UnionOf_l2, idx_nat l hi, Option.bind_some, if_pos (by simpa using hj), Option.bind_some, idx_nat _ hj, Option.bind_some, AddFact_S x _ hx (hti.2 _ (List.getElem_mem hj)), Option.bind_some, w64_succ (by have := hti.1; omega)]), Option.bind_some, w64_succ (by have := hm.1; omega)])]
  rfl
theorem UnionOf_M (l : List ((Int × List Int) × List Fa)) (z : SZ.sz l ≤ 1048576) : M.UnionOf l = some (unF l []) := by
  have hm := sm_of z
  unfold M.UnionOf
  rw [un_loop (M.UnionOf_l1 l) l z (fun k x => by rw [M.UnionOf_l1, if_neg (by simp)]) (fun k x i hi hx hn => by
    have hti := (hm.2 _ (List.getElem_mem hi)).2
    rw [M.UnionOf_l1, if_pos (by simpa using hi), idx_nat l hi, Option.bind_some, add_loop (M.UnionOf_l2 l[i]) l[i].2 x hti hx hn (fun k x => by rw [M.UnionOf_l2, if_neg (by simp)]) (fun k x j hj hx => by
      have ha := added_M x l[i].2[j] hx (hti.2 _ (List.getElem_mem hj))
      rw [M.UnionOf_l2, if_pos (by simpa using hj), idx_nat _ hj, Option.bind_some, show (l[i].2[j].1, l[i].2[j].2) = l[i].2[j] from rfl, ha, Option.bind_some, w64_succ (by have := hti.1; omega)]), Option.bind_some, w64_succ (by have := hm.1; omega)])]
  rfl
theorem same_UnionOf (l : List ((Int × List Int) × List Fa)) (z : SZ.sz l ≤ 1048576) (_ : Rng.r l) : ∃ r, S.UnionOf l = some r ∧ M.UnionOf l = some r ∧ SZ.sm r :=
  ⟨_, UnionOf_S l z, UnionOf_M l z, (unF_sm l [] sm_nil (by have : l.length + szs l ≤ 1048576 := z; simp; omega) (sm_of z).2).1⟩
end Go.Gx.Px
