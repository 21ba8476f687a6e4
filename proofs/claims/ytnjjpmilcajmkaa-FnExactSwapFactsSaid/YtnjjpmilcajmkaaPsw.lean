/- Plain laws: values of facts are exchanged. Conditions: none. -/
import Derived.Test.YtnjjpmilcajmkaaPf
set_option linter.unusedVariables false
set_option linter.unusedSimpArgs false
namespace Go.Gx.Px
def sw (a b x : Int) : Int := if x = a then b else if x = b then a else x
theorem Swap_S (x a b : Int) : S.l30Swap x a b = some (sw a b x) := by
  unfold S.l30Swap sw
  by_cases h : x = a
  · simp [h]
  · by_cases h2 : x = b
    · subst h2; simp [h]
    · simp [h, h2]
/-- a list that is changed in place, place by place -/
theorem upd_loop {α : Type} (f : Nat → List α → Int → Option (List α)) (a : List α) (g : α → α) (hn : a.length ≤ 4294967296) (he : ∀ k x, f (k + 1) x (a.length : Int) = some x)
    (hs : ∀ k (x : List α) (i : Nat) (hi : i < a.length) (hx : i < x.length), x[i] = a[i] → f (k + 1) x (i : Int) = f k (x.set i (g a[i])) ((i + 1 : Nat) : Int)) : f FUEL a 0 = some (a.map g) := by
  obtain ⟨k, s', h1, rfl⟩ := loop_inv0 f (fun i x => x = (a.take i).map g ++ a.drop i) a.length hn a (by simp) (fun k i x hi hx => by
    have hl : ((a.take i).map g).length = i := by rw [List.length_map, List.length_take]; omega
    have hxl : i < x.length := by rw [hx, List.length_append, hl, List.length_drop]; omega
    refine ⟨_, hs k x i hi hxl ?_, ?_⟩
    · subst hx; rw [List.getElem_append_right (by omega)]; simp only [List.getElem_drop]; congr 1; omega
    · subst hx
      have hset : ∀ y, (a.drop i).set 0 y = y :: a.drop (i + 1) := fun y => by rw [List.drop_eq_getElem_cons hi]; rfl
      rw [List.set_append_right _ _ (by omega), hl, Nat.sub_self, hset, List.take_add_one, List.getElem?_eq_getElem hi, List.map_append, List.append_assoc]
      rfl)
  rw [h1, he, List.take_length, List.drop_length, List.append_nil]
theorem swapped_M (l : List Int) (a b : Int) (h : l.length ≤ 1048576) : M.swapped l a b = some (l.map (sw a b)) := by
  unfold M.swapped
  rw [clone_eq l h, Option.bind_some, upd_loop (M.swapped_l1 l a b) l (sw a b) (by omega) (fun k x => by rw [M.swapped_l1, if_neg (by simp)]) (fun k x i hi hx he => by
    rw [M.swapped_l1, if_pos (by simpa using hi), idx_nat l hi, idx_nat x hx]
    simp only [Option.bind_some, Int.toNat_natCast, w64_succ (show i < 4611686018427387904 by omega)]
    unfold sw
    by_cases c1 : l[i] = a
    · simp [c1]
    · by_cases c2 : l[i] = b
      · subst c2; simp [c1]
      · simp only [c1, c2, decide_false, Bool.false_eq_true, if_false, Option.bind_some]
        rw [← he, List.set_getElem_self])]
  rfl
def swF (a b : Int) (e : Fa) : Fa := (e.1, e.2.map (sw a b))
def swFs (a b : Int) (l : List Fa) : List Fa := l.foldl (fun acc e => addF acc (swF a b e)) []
theorem swF_sm {e : Fa} (a b : Int) (h : SZ.sm e) : SZ.sm (swF a b e) := ⟨trivial, by unfold swF; exact sm_ints (by rw [List.length_map]; exact h.2.1)⟩
theorem foldl_sm (g : Fa → Fa) (hg : ∀ e, SZ.sm e → SZ.sm (g e)) : ∀ (l acc : List Fa), SZ.sm l → SZ.sm acc → acc.length + l.length ≤ 1048576 → SZ.sm (l.foldl (fun acc e => addF acc (g e)) acc) ∧ (l.foldl (fun acc e => addF acc (g e)) acc).length ≤ acc.length + l.length
  | [], acc, _, h, _ => ⟨h, by simp⟩
  | e :: l, acc, hl, ha, hn => by
    have he := hl.2 e (List.mem_cons_self ..)
    have hl' : SZ.sm l := ⟨by have := hl.1; simp at this; omega, fun x hx => hl.2 x (List.mem_cons_of_mem _ hx)⟩
    have h1 := addF_len acc (g e)
    simp only [List.length_cons] at hn
    obtain ⟨h2, h3⟩ := foldl_sm g hg l (addF acc (g e)) hl' (sm_add ha (hg e he) (by omega)) (by omega)
    exact ⟨h2, by simp only [List.foldl_cons, List.length_cons]; omega⟩
/-- a list that is gone through, what is gathered being put in its place -/
theorem fold_loop (f : Nat → List Fa → Int → Option (List Fa)) (a : List Fa) (g : Fa → Fa) (hg : ∀ e, SZ.sm e → SZ.sm (g e)) (ha : SZ.sm a) (he : ∀ k x, f (k + 1) x (a.length : Int) = some x)
    (hs : ∀ k (x : List Fa) (i : Nat) (hi : i < a.length), SZ.sm x → f (k + 1) x (i : Int) = f k (addF x (g a[i])) ((i + 1 : Nat) : Int)) : f FUEL [] 0 = some (a.foldl (fun acc e => addF acc (g e)) []) := by
  have hn := ha.1
  obtain ⟨k, s', h1, rfl⟩ := loop_inv0 f (fun i x => x = (a.take i).foldl (fun acc e => addF acc (g e)) []) a.length (by omega) [] (by simp) (fun k i x hi hx => by
    have hsm : SZ.sm x := by
      rw [hx]
      exact (foldl_sm g hg (a.take i) [] (sm_part ha 0 0 |> fun _ => ⟨by rw [List.length_take]; omega, fun e he => ha.2 e (List.mem_of_mem_take he)⟩) sm_nil (by simp; omega)).1
    refine ⟨_, hs k x i hi hsm, ?_⟩
    rw [hx, List.take_add_one, List.getElem?_eq_getElem hi, List.foldl_append]; rfl)
  rw [h1, he, List.take_length]
theorem SwapFacts_S (l : List Fa) (a b : Int) (hl : SZ.sm l) : S.SwapFacts l a b = some (swFs a b l) := by
  unfold S.SwapFacts swFs
  rw [fold_loop (S.SwapFacts_l1 l a b) l (swF a b) (fun e => swF_sm a b) hl (fun k x => by rw [S.SwapFacts_l1, if_neg (by simp)]) (fun k x i hi hx => by
    have hv := (hl.2 _ (List.getElem_mem hi)).2.1
    have hn := hl.1
    have hlo : S.SwapFacts_l2 l i a b FUEL l[i].1 [] 0 = some (l[i].1, l[i].2.map (sw a b)) := by
      obtain ⟨k, s', h1, rfl⟩ := loop_inv0 (fun k (s : List Int) j => S.SwapFacts_l2 l i a b k l[i].1 s j) (fun j x => x = (l[i].2.take j).map (sw a b)) l[i].2.length (by omega) [] (by simp) (fun k j x hj hx => by
        refine ⟨_, ?_, rfl⟩
        subst hx
        show S.SwapFacts_l2 l i a b (k + 1) l[i].1 _ j = S.SwapFacts_l2 l i a b k l[i].1 _ _
        rw [S.SwapFacts_l2, idx_nat l hi, Option.bind_some, if_pos (by simpa using hj), Option.bind_some, idx_nat _ hj, Option.bind_some, Swap_S, Option.bind_some, app_eq _ _ (by simp; omega), Option.bind_some, w64_succ (by omega), List.take_add_one, List.getElem?_eq_getElem hj, List.map_append]
        rfl)
      rw [h1, S.SwapFacts_l2, idx_nat l hi, Option.bind_some, if_neg (by simp), List.take_length]
    rw [S.SwapFacts_l1, if_pos (by simpa using hi), idx_nat l hi, Option.bind_some, hlo, Option.bind_some]
    show (S.AddFact x (swF a b l[i])).bind _ = _
    rw [AddFact_S x _ hx (swF_sm a b (hl.2 _ (List.getElem_mem hi))), Option.bind_some, w64_succ (by omega)])]
  rfl
theorem SwapFacts_M (l : List Fa) (a b : Int) (hl : SZ.sm l) : M.SwapFacts l a b = some (swFs a b l) := by
  unfold M.SwapFacts swFs
  rw [fold_loop (M.SwapFacts_l1 l a b) l (swF a b) (fun e => swF_sm a b) hl (fun k x => by rw [M.SwapFacts_l1, if_neg (by simp)]) (fun k x i hi hx => by
    have hv := (hl.2 _ (List.getElem_mem hi)).2.1
    have hn := hl.1
    rw [M.SwapFacts_l1, if_pos (by simpa using hi), idx_nat l hi, Option.bind_some, swapped_M _ a b hv, Option.bind_some]
    show (M.added x (swF a b l[i])).bind _ = _
    rw [added_M x _ hx (swF_sm a b (hl.2 _ (List.getElem_mem hi))), Option.bind_some, w64_succ (by omega)])]
  rfl
theorem same_SwapFacts (l : List Fa) (a b : Int) (z1 : SZ.sz l ≤ 1048576) (_ : SZ.sz a ≤ 1048576) (_ : SZ.sz b ≤ 1048576) (_ : Rng.r l) (_ : Rng.r a) (_ : Rng.r b) : ∃ r, S.SwapFacts l a b = some r ∧ M.SwapFacts l a b = some r ∧ SZ.sm r :=
  ⟨_, SwapFacts_S l a b (sm_of z1), SwapFacts_M l a b (sm_of z1), (foldl_sm (swF a b) (fun e => swF_sm a b) l [] (sm_of z1) sm_nil (by have := (sm_of z1).1; simp; omega)).1⟩
end Go.Gx.Px
