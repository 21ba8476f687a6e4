/- Plain laws: constants of a query are exchanged. Conditions: none. -/
import Derived.Test.YtnlaijbfggelfaaPn
set_option linter.unusedVariables false
set_option linter.unusedSimpArgs false
namespace Go.Gx.Px
abbrev Qu := List Int × List Fa
theorem cloneI (a : List Int) (h : a.length ≤ 1048576) : Slices.Clone_Lint_int a = some a := by
  unfold Slices.Clone_Lint_int; rw [app_eq _ _ (by simp; omega)]; rfl
def sw (a b x : Int) : Int := if x = a then b else if x = b then a else x
theorem Swap_S (x a b : Int) : S.l30Swap x a b = some (sw a b x) := by
  unfold S.l30Swap sw
  by_cases h : x = a
  · simp [h]
  · by_cases h2 : x = b
    · subst h2; simp [h]
    · simp [h, h2]
/-- a list that is changed in place, place by place -/
theorem upd_loop {α : Type} (f : Nat → List α → Int → Option (List α)) (a : List α) (g : α → α) (hn : a.length ≤ 4294967296) (he : ∀ k (x : List α), x.length = a.length → f (k + 1) x (a.length : Int) = some x)
    (hs : ∀ k (x : List α) (i : Nat) (hi : i < a.length) (hx : i < x.length), x.length = a.length → x[i] = a[i] → f (k + 1) x (i : Int) = f k (x.set i (g a[i])) ((i + 1 : Nat) : Int)) : f FUEL a 0 = some (a.map g) := by
  obtain ⟨k, s', h1, rfl⟩ := loop_inv0 f (fun i x => x = (a.take i).map g ++ a.drop i) a.length hn a (by simp) (fun k i x hi hx => by
    have hl : ((a.take i).map g).length = i := by rw [List.length_map, List.length_take]; omega
    have hxe : x.length = a.length := by rw [hx, List.length_append, hl, List.length_drop]; omega
    refine ⟨_, hs k x i hi (by omega) hxe ?_, ?_⟩
    · subst hx; rw [List.getElem_append_right (by omega)]; simp only [List.getElem_drop]; congr 1; omega
    · subst hx
      have hset : ∀ y, (a.drop i).set 0 y = y :: a.drop (i + 1) := fun y => by rw [List.drop_eq_getElem_cons hi]; rfl
      rw [List.set_append_right _ _ (by omega), hl, Nat.sub_self, hset, List.take_add_one, List.getElem?_eq_getElem hi, List.map_append, List.append_assoc]
      rfl)
  rw [h1, he _ _ (by simp), List.take_length, List.drop_length, List.append_nil]
theorem swapped_M (l : List Int) (a b : Int) (h : l.length ≤ 1048576) : M.swapped l a b = some (l.map (sw a b)) := by
  unfold M.swapped
  rw [cloneI l h, Option.bind_some, upd_loop (M.swapped_l1 l a b) l (sw a b) (by omega) (fun k x _ => by rw [M.swapped_l1, if_neg (by simp)]) (fun k x i hi hx _ he => by
    rw [M.swapped_l1, if_pos (by simpa using hi), idx_nat l hi, idx_nat x hx]
    simp only [Option.bind_some, Int.toNat_natCast, w64_succ (show i < 4611686018427387904 by omega)]
    unfold sw
    by_cases c1 : l[i] = a
    · simp [c1]
    · by_cases c2 : l[i] = b
      · subst c2; simp [c1]
      · simp only [c1, c2, decide_false, Bool.false_eq_true, if_false, Option.bind_some]
        rw [← he, List.set_getElem_self])]
  rfl
theorem copyQ_M (q : Qu) (h : SZ.sm q) : M.copyQuery q = some q := by
  unfold M.copyQuery M.copyAtoms
  rw [cloneI q.1 h.1.1, map_loop (M.copyAtoms_l1 q.2) q.2 id (by have := h.2.1; omega) (fun k x => by rw [M.copyAtoms_l1, if_neg (by simp)]) (fun k x i hi hl => by
    have h1 := h.2.1
    rw [M.copyAtoms_l1, if_pos (by simpa using hi), idx_nat q.2 hi, Option.bind_some]
    unfold M.copyAtom
    rw [cloneI _ (h.2.2 _ (List.getElem_mem hi)).2.1, Option.bind_some, Option.bind_some, app_eq _ _ (by simp; omega), Option.bind_some, w64_succ (by omega)]
    rfl)]
  simp
theorem copyQ_S (q : Qu) (h : SZ.sm q) : S.l3Copy q = some q := by
  unfold S.l3Copy
  have hl := h.1.1
  rw [app_eq _ _ (by simp; omega), Option.bind_some]
  obtain ⟨k, s', h1, h2, h3⟩ := loop_inv0 (fun k (s : List Int × List Fa) i => S.l3Copy_l1 q k s.1 s.2 i) (fun i s => s.1 = q.1 ∧ s.2 = q.2.take i) q.2.length (by have := h.2.1; omega) (q.1, []) ⟨rfl, by simp⟩ (fun k i s hi ⟨hs1, hs2⟩ => by
    have h1 := h.2.1
    refine ⟨(q.1, q.2.take (i + 1)), ?_, rfl, rfl⟩
    show S.l3Copy_l1 q (k + 1) s.1 s.2 (i : Int) = S.l3Copy_l1 q k q.1 (q.2.take (i + 1)) _
    rw [S.l3Copy_l1, if_pos (by simpa using hi), idx_nat q.2 hi, Option.bind_some, Option.bind_some]
    unfold S.l3Atom
    have h3 := (h.2.2 _ (List.getElem_mem hi)).2.1
    rw [app_eq _ _ (by simp; omega), Option.bind_some, Option.bind_some, app_eq _ _ (by rw [hs2]; simp; omega), Option.bind_some, w64_succ (by omega), hs1, hs2, List.take_add_one, List.getElem?_eq_getElem hi]
    rfl)
  have h1' : S.l3Copy_l1 q FUEL q.1 [] 0 = S.l3Copy_l1 q (k + 1) s'.1 s'.2 (q.2.length : Int) := h1
  rw [List.nil_append, h1', S.l3Copy_l1, if_neg (by simp), h2, h3, List.take_length]
  rfl
def swA (a b : Int) (e : Fa) : Fa := (e.1, e.2.map (sw a b))
def swQ (q : Qu) (a b : Int) : Qu := if inR a 0 9 && inR b 0 9 then (q.1, q.2.map (swA a b)) else q
theorem SwapValue_M (q : Qu) (a b : Int) (h : SZ.sm q) : M.SwapValue q a b = some (swQ q a b) := by
  unfold M.SwapValue M.isValue swQ
  rw [copyQ_M q h, inM, inM]
  have h1 := h.2.1
  cases ha : inR a 0 9
  · rfl
  · cases hb : inR b 0 9
    · rfl
    · simp only [Option.bind_some, if_true, Bool.and_self]
      rw [upd_loop (M.SwapValue_l1 q a b) q.2 (swA a b) (by omega) (fun k x hx => by rw [M.SwapValue_l1, if_neg (by simp)]) (fun k x i hi hx hl he => by
        have h3 := (h.2.2 _ (List.getElem_mem hi)).2.1
        rw [M.SwapValue_l1, if_pos (by simpa using hi), idx_nat x hx, Option.bind_some, he, swapped_M _ a b h3, Option.bind_some, Option.bind_some, Int.toNat_natCast, w64_succ (by omega)]
        rfl)]
      rfl
theorem swap_in (x : List Fa) (n : Nat) (a b : Int) (hn : n < x.length) (h : (x[n]).2.length ≤ 1048576) : S.SwapValue_l2 (n : Int) a b FUEL x 0 = some (x.set n (swA a b x[n])) := by
  obtain ⟨k, s', h1, h2⟩ := loop_inv0 (fun k (s : List Fa) i => S.SwapValue_l2 (n : Int) a b k s i) (fun i s => s = x.set n ((x[n]).1, ((x[n]).2.take i).map (sw a b) ++ (x[n]).2.drop i)) (x[n]).2.length (by omega) x (by simp only [List.take_zero, List.map_nil, List.nil_append, List.drop_zero]; exact (List.set_getElem_self hn).symm) (fun k i s hi hs => by
    have hl : (((x[n]).2.take i).map (sw a b)).length = i := by rw [List.length_map, List.length_take]; omega
    have e1 : idx s (n : Int) = some ((x[n]).1, ((x[n]).2.take i).map (sw a b) ++ (x[n]).2.drop i) := by rw [hs]; exact idx_set x _ hn
    have e2 : (((x[n]).2.take i).map (sw a b) ++ (x[n]).2.drop i).length = (x[n]).2.length := by rw [List.length_append, hl, List.length_drop]; omega
    have e3 : idx (((x[n]).2.take i).map (sw a b) ++ (x[n]).2.drop i) (i : Int) = some ((x[n]).2[i]) := by
      rw [idx_nat _ (by omega), List.getElem_append_right (by omega)]
      simp only [List.getElem_drop]
      congr 2; omega
    refine ⟨_, ?_, rfl⟩
    show S.SwapValue_l2 (n : Int) a b (k + 1) s (i : Int) = _
    rw [S.SwapValue_l2, e1, Option.bind_some]
    simp only
    rw [e2, if_pos (by simpa using hi)]
    simp only [Option.bind_some, e3, Swap_S, Int.toNat_natCast, w64_succ (show i < 4611686018427387904 by omega)]
    congr 1
    rw [hs, List.set_set]
    have hset : ∀ y, ((x[n]).2.drop i).set 0 y = y :: (x[n]).2.drop (i + 1) := fun y => by rw [List.drop_eq_getElem_cons hi]; rfl
    rw [List.set_append_right _ _ (by omega), hl, Nat.sub_self, hset, List.take_add_one, List.getElem?_eq_getElem hi, List.map_append, List.append_assoc]
    rfl)
  have h1' : S.SwapValue_l2 (n : Int) a b FUEL x 0 = S.SwapValue_l2 (n : Int) a b (k + 1) s' ((x[n]).2.length : Int) := h1
  have e1 : idx s' (n : Int) = some ((x[n]).1, (x[n]).2.map (sw a b)) := by rw [h2, List.take_length, List.drop_length, List.append_nil]; exact idx_set x _ hn
  rw [h1', S.SwapValue_l2, e1, Option.bind_some]
  simp only
  rw [List.length_map, if_neg (by simp), h2, List.take_length, List.drop_length, List.append_nil]
  rfl
theorem SwapValue_S (q : Qu) (a b : Int) (h : SZ.sm q) : S.SwapValue q a b = some (swQ q a b) := by
  unfold S.SwapValue swQ
  have e0 : S.l3Copy (q.1, q.2) = some q := copyQ_S q h
  rw [e0, Option.bind_some]
  have h1 := h.2.1
  by_cases hab : (inR a 0 9 && inR b 0 9) = true
  · rw [if_pos hab]
    rw [Bool.and_eq_true] at hab
    rw [upd_loop (S.SwapValue_l1 a b) q.2 (swA a b) (by omega) (fun k x hx => by rw [S.SwapValue_l1, if_neg (by simp; omega)]; rfl) (fun k x i hi hx hl he => by
      have h3 := (h.2.2 _ (List.getElem_mem hi)).2.1
      rw [S.SwapValue_l1, if_pos (by simpa using hx), inS, inS, hab.1, hab.2]
      simp only [Option.bind_some, if_true]
      rw [swap_in x i a b hx (by rw [he]; exact h3), Option.bind_some, w64_succ (by omega), he])]
    rfl
  · rw [if_neg hab]
    have hend : S.SwapValue_l1 a b FUEL q.2 0 = some q.2 := by
      rw [fuel_succ, S.SwapValue_l1, inS, inS]
      by_cases h0 : (0 : Int) < (List.length q.2 : Int)
      · rw [if_pos (decide_eq_true h0)]
        cases ha : inR a 0 9
        · rfl
        · cases hb : inR b 0 9
          · rfl
          · exact absurd (by rw [ha, hb]; rfl) hab
      · rw [if_neg (by simpa using h0)]; rfl
    rw [hend]; rfl
theorem swQ_sm (q : Qu) (a b : Int) (h : SZ.sm q) : SZ.sm (swQ q a b) := by
  unfold swQ
  split
  · refine ⟨h.1, ⟨by rw [List.length_map]; exact h.2.1, fun e he => ?_⟩⟩
    obtain ⟨f, hf, rfl⟩ := List.mem_map.1 he
    exact ⟨trivial, sm_ints (by unfold swA; rw [List.length_map]; exact (h.2.2 f hf).2.1)⟩
  · exact h
theorem same_SwapValue (q : Qu) (a b : Int) (z : SZ.sz q ≤ 1048576) (_ : SZ.sz a ≤ 1048576) (_ : SZ.sz b ≤ 1048576) (_ : Rng.r q) (_ : Rng.r a) (_ : Rng.r b) : ∃ r, S.SwapValue q a b = some r ∧ M.SwapValue q a b = some r ∧ SZ.sm r :=
  ⟨_, SwapValue_S q a b (sm_of z), SwapValue_M q a b (sm_of z), swQ_sm q a b (sm_of z)⟩
end Go.Gx.Px
