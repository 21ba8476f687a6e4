/- Plain laws, many texts in one. Conditions: none. -/
import Derived.Test.YtdkfiadoiapnbaaPlSp
import Derived.Test.YtdkfiadoiapnbaaPlTy
set_option linter.unusedVariables false
set_option linter.unusedSimpArgs false
namespace Go.Gx.Px
theorem inS (a b c : Int) : S.l1In a b c = some (inR a b c) := by
 unfold S.l1In inR
 by_cases h : b ≤ a <;> simp [h]
theorem inM (a b c : Int) : M.within a b c = some (inR a b c) := by
 unfold M.within inR
 by_cases h : b ≤ a <;> simp [h]
theorem idx_in {α : Type} {l : List α} {r : Int} (d : α) (h : inR r 0 ((l.length : Int) - 1) = true) : idx l r = some (l.getD r.toNat d) := by
 rw [inR_iff] at h
 obtain ⟨n, rfl⟩ : ∃ n : Nat, r = n := ⟨r.toNat, by omega⟩
 have hn : n < l.length := by omega
 rw [idx_nat l hn]
 simp [hn]
theorem any_loop {α β : Type} (f : Nat → Int → Option (Sum Unit β)) (a : List α) (q : α → Bool) (b : β) (hn : a.length ≤ 4294967296) (he : ∀ k, f (k + 1) (a.length : Int) = some (.inl ()))
  (hs : ∀ k (i : Nat) (hi : i < a.length), f (k + 1) (i : Int) = if q a[i] then some (.inr b) else f k ((i + 1 : Nat) : Int)) : f FUEL 0 = some (if a.any q then .inr b else .inl ()) := by
 rw [all_loop f a (fun e => !q e) b hn he (fun k i hi => by rw [hs k i hi]; cases q a[i] <;> rfl)]
 have : a.all (fun e => !q e) = !a.any q := by rw [List.any_eq_not_all_not]; simp
 rw [this]; cases a.any q <;> rfl
theorem flatMap_len {α β : Type} (g : α → List β) (hg : ∀ i, (g i).length ≤ 1) : ∀ l : List α, (l.flatMap g).length ≤ l.length
 | [] => by simp
 | a :: l => by have := hg a; have := flatMap_len g hg l; simp only [List.flatMap_cons, List.length_append, List.length_cons]; omega
def ascI (l : List Int) : Prop := l.Pairwise (· < ·)
theorem ascI_ext : ∀ {a b : List Int}, ascI a → ascI b → (∀ x, x ∈ a ↔ x ∈ b) → a = b
 | [], [], _, _, _ => rfl
 | [], y :: b, _, _, h => by have := (h y).2 (by simp); cases this
 | x :: a, [], _, _, h => by have := (h x).1 (by simp); cases this
 | x :: a, y :: b, ha, hb, h => by
  have ha' := List.pairwise_cons.1 ha
  have hb' := List.pairwise_cons.1 hb
  have e : x = y := by
   have h1 := (h x).1 (by simp)
   have h2 := (h y).2 (by simp)
   rcases List.mem_cons.1 h1 with h1 | h1
   ·exact h1
   ·rcases List.mem_cons.1 h2 with h2 | h2
    ·exact h2.symm
    ·have := hb'.1 x h1
     have := ha'.1 y h2
     omega
  subst e
  rw [ascI_ext ha'.2 hb'.2 fun z => ?_]
  constructor
  ·intro hz
   have h1 := (h z).1 (by simp [hz])
   rcases List.mem_cons.1 h1 with h1 | h1
   ·have := ha'.1 z hz; omega
   ·exact h1
  ·intro hz
   have h1 := (h z).2 (by simp [hz])
   rcases List.mem_cons.1 h1 with h1 | h1
   ·have := hb'.1 z hz; omega
   ·exact h1
def insI : List Int → Int → List Int
 | [], x => [x]
 | y :: l, x => if x < y then x :: y :: l else y :: insI l x
theorem mem_insI {z x : Int} : ∀ {l : List Int}, z ∈ insI l x ↔ z = x ∨ z ∈ l
 | [] => by simp [insI]
 | y :: l => by
  unfold insI
  split
  ·simp
  ·rw [List.mem_cons, mem_insI, List.mem_cons]
   constructor
   ·rintro (h | h | h) <;> simp [h]
   ·rintro (h | h | h) <;> simp [h]
theorem asc_insI {x : Int} : ∀ {l : List Int}, ascI l → x ∉ l → ascI (insI l x)
 | [], _, _ => by simp [insI, ascI]
 | y :: l, h, hx => by
  have h' := List.pairwise_cons.1 h
  unfold insI
  split
  ·rename_i hlt
   refine List.pairwise_cons.2 ⟨fun z hz => ?_, h⟩
   rcases List.mem_cons.1 hz with rfl | hz
   ·exact hlt
   ·have := h'.1 z hz; omega
  ·rename_i hlt
   refine List.pairwise_cons.2 ⟨fun z hz => ?_, asc_insI h'.2 fun hm => hx (by simp [hm])⟩
   rcases mem_insI.1 hz with rfl | hz
   ·have : z ≠ y := fun e => hx (by simp [e])
    omega
   ·exact h'.1 z hz
theorem insI_len (x : Int) : ∀ l : List Int, (insI l x).length = l.length + 1
 | [] => rfl
 | y :: l => by unfold insI; split <;> simp [insI_len x l]
def putI (l : List Int) (x : Int) : List Int := if x ∈ l then l else insI l x
theorem mem_putI {z x : Int} {l : List Int} : z ∈ putI l x ↔ z = x ∨ z ∈ l := by
 unfold putI
 split
 ·rename_i h
  constructor
  ·exact .inr
  ·rintro (rfl | h2)
   ·exact h
   ·exact h2
 ·exact mem_insI
theorem asc_putI {x : Int} {l : List Int} (h : ascI l) : ascI (putI l x) := by
 unfold putI
 split
 ·exact h
 ·exact asc_insI h ‹_›
theorem putI_len (l : List Int) (x : Int) : (putI l x).length ≤ l.length + 1 := by
 unfold putI
 split
 ·omega
 ·rw [insI_len]; exact Nat.le_refl _
theorem mem_fold {z : Int} : ∀ {xs acc : List Int}, z ∈ xs.foldl putI acc ↔ z ∈ acc ∨ z ∈ xs
 | [], acc => by simp
 | x :: xs, acc => by
  rw [List.foldl_cons, mem_fold, mem_putI, List.mem_cons]
  constructor
  ·rintro ((h | h) | h) <;> simp [h]
  ·rintro (h | h | h) <;> simp [h]
theorem asc_fold : ∀ {xs acc : List Int}, ascI acc → ascI (xs.foldl putI acc)
 | [], _, h => h
 | x :: xs, acc, h => by rw [List.foldl_cons]; exact asc_fold (asc_putI h)
theorem fold_len : ∀ (xs acc : List Int), (xs.foldl putI acc).length ≤ acc.length + xs.length
 | [], acc => by simp
 | x :: xs, acc => by
  have h1 := fold_len xs (putI acc x)
  have h2 := putI_len acc x
  rw [List.foldl_cons, List.length_cons]; omega
def sortL (l : List Int) : List Int := l.mergeSort fun x y => decide (x ≤ y)
theorem sortL_asc (l : List Int) : (sortL l).Pairwise (· ≤ ·) := by
 have h := List.pairwise_mergeSort (le := fun x y : Int => decide (x ≤ y)) (fun a b c h1 h2 => by simp at *; omega) (fun a b => by simp; omega) l
 exact h.imp fun h => by simpa using h
theorem mem_sortL {z : Int} {l : List Int} : z ∈ sortL l ↔ z ∈ l := List.mem_mergeSort
theorem cu_spec (d : Array Int) (hd : ∀ i j, i ≤ j → j < d.size → d[i]! ≤ d[j]!) : ∀ m, m ≤ d.size → ascI (Lib.compactUpTo d m) ∧ (∀ x, x ∈ Lib.compactUpTo d m ↔ ∃ j, j < m ∧ d[j]! = x) := by
 intro m
 induction m with
 | zero =>
  intro _
  have e : Lib.compactUpTo d 0 = [] := rfl
  rw [e]
  exact ⟨List.Pairwise.nil, fun x => by simp⟩
 | succ m ih =>
  intro hm
  obtain ⟨h1, h2⟩ := ih (by omega)
  rw [Lib.compactUpTo_succ]
  by_cases hk : Lib.keeps d m = true
  ·rw [if_pos hk]
   refine ⟨List.pairwise_append.2 ⟨h1, by simp, fun x hx y hy => ?_⟩, fun x => ?_⟩
   ·obtain ⟨j, hj, rfl⟩ := (h2 x).1 hx
    rw [List.mem_singleton] at hy
    subst hy
    have a1 := hd j (m - 1) (by omega) (by omega)
    have a2 := hd (m - 1) m (by omega) (by omega)
    have a3 : d[m]! ≠ d[m - 1]! := by
     intro e
     have := Lib.keeps_neg (by omega) e
     rw [this] at hk; cases hk
    omega
   ·rw [List.mem_append, h2, List.mem_singleton]
    constructor
    ·rintro (⟨j, hj, e⟩ | e)
     ·exact ⟨j, by omega, e⟩
     ·exact ⟨m, by omega, e.symm⟩
    ·rintro ⟨j, hj, e⟩
     by_cases hjm : j = m
     ·subst hjm; exact .inr e.symm
     ·exact .inl ⟨j, by omega, e⟩
  ·rw [if_neg hk, List.append_nil]
   refine ⟨h1, fun x => ?_⟩
   rw [h2]
   have a0 : 0 < m := by
    rcases Nat.eq_zero_or_pos m with rfl | h
    ·exact absurd (Lib.keeps_lt_one d 0 (by omega)) hk
    ·exact h
   have a1 : d[m]! = d[m - 1]! := Classical.byContradiction fun h => hk (Lib.keeps_pos h)
   constructor
   ·rintro ⟨j, hj, e⟩; exact ⟨j, by omega, e⟩
   ·rintro ⟨j, hj, e⟩
    by_cases hjm : j = m
    ·subst hjm; exact ⟨j - 1, by omega, by rw [← a1]; exact e⟩
    ·exact ⟨j, by omega, e⟩
theorem compact_sort (l : List Int) : ascI (Lib.compact (sortL l)) ∧ ∀ x, x ∈ Lib.compact (sortL l) ↔ x ∈ l := by
 have hs := sortL_asc l
 have hd : ∀ i j, i ≤ j → j < (sortL l).toArray.size → (sortL l).toArray[i]! ≤ (sortL l).toArray[j]! := by
  intro i j hij hj
  have hj' : j < (sortL l).length := by simpa using hj
  rw [getElem!_pos _ i (by simp; omega), getElem!_pos _ j (by simp; omega)]
  rcases Nat.lt_or_ge i j with h | h
  ·exact List.pairwise_iff_getElem.1 hs i j (by omega) hj' h
  ·obtain rfl : i = j := by omega
   exact Int.le_refl _
 obtain ⟨h1, h2⟩ := cu_spec (sortL l).toArray hd (sortL l).length (by simp)
 refine ⟨h1, fun x => ?_⟩
 rw [← mem_sortL (l := l)]
 refine (h2 x).trans ⟨?_, fun hx => ?_⟩
 ·rintro ⟨j, hj, rfl⟩
  rw [getElem!_pos _ j (by simpa using hj)]
  simp
 ·obtain ⟨j, hj, rfl⟩ := List.getElem_of_mem hx
  exact ⟨j, hj, by rw [getElem!_pos _ j (by simpa using hj)]; simp⟩
abbrev Mt := Int × List Int × Int × Int × Int
abbrev Qu := List Int × List (Int × List Int)
theorem has_S (l : List Int) (x : Int) (h : l.length ≤ 4294967296) : S.l2Has l x = some (decide (x ∈ l)) := by
 unfold S.l2Has
 rw [any_loop (S.l2Has_l1 l x) l (fun y => decide (y = x)) true h (fun k => by rw [S.l2Has_l1, if_neg (by simp)]) (fun k i hi => by
  rw [S.l2Has_l1, if_pos (decide_eq_true (by omega)), idx_nat l hi, Option.bind_some, w64_succ (by omega)])]
 have e : (l.any fun y => decide (y = x)) = decide (x ∈ l) := by
  rw [Bool.eq_iff_iff, List.any_eq_true, decide_eq_true_iff]
  constructor
  ·rintro ⟨y, hy, h⟩
   rw [decide_eq_true_iff] at h
   exact h ▸ hy
  ·intro h
   exact ⟨x, h, decide_eq_true rfl⟩
 rw [e]
 cases decide (x ∈ l) <;> rfl
theorem put_loopT (l : List Int) (x : Int) (hl : l.length ≤ 4294967296) : ∀ (n K i : Nat) (out : List Int), i + n = l.length → n < K → out.length + n ≤ 4294967000 → S.l3Put_l1 l x K out true (i : Int) = some (out ++ l.drop i, true) := by
 intro n
 induction n with
 | zero =>
  intro K i out h1 hK ho
  obtain ⟨K, rfl⟩ : ∃ k, K = k + 1 := ⟨K - 1, by omega⟩
  rw [S.l3Put_l1, if_neg (by simp; omega), List.drop_of_length_le (by omega), List.append_nil]
 | succ n ih =>
  intro K i out h1 hK ho
  obtain ⟨K, rfl⟩ : ∃ k, K = k + 1 := ⟨K - 1, by omega⟩
  have hi : i < l.length := by omega
  rw [S.l3Put_l1, if_pos (decide_eq_true (by omega))]
  simp only [Bool.not_true, Bool.false_eq_true, if_false, Option.bind_some]
  rw [idx_nat l hi, Option.bind_some, app_eq _ _ (by simp; omega), Option.bind_some, w64_succ (by omega), ih K (i + 1) _ (by omega) (by omega) (by simp; omega), List.drop_eq_getElem_cons hi, List.append_assoc]
  rfl
theorem put_loopF (l : List Int) (x : Int) (hl : l.length ≤ 4294967296) : ∀ (n K i : Nat) (out : List Int), i + n = l.length → n < K → out.length + n ≤ 4294960000 →
  S.l3Put_l1 l x K out false (i : Int) = some (if (l.drop i).any (fun y => decide (x < y)) then (out ++ insI (l.drop i) x, true) else (out ++ l.drop i, false)) := by
 intro n
 induction n with
 | zero =>
  intro K i out h1 hK ho
  obtain ⟨K, rfl⟩ : ∃ k, K = k + 1 := ⟨K - 1, by omega⟩
  rw [S.l3Put_l1, if_neg (by simp; omega), List.drop_of_length_le (by omega)]
  simp
 | succ n ih =>
  intro K i out h1 hK ho
  obtain ⟨K, rfl⟩ : ∃ k, K = k + 1 := ⟨K - 1, by omega⟩
  have hi : i < l.length := by omega
  rw [S.l3Put_l1, if_pos (decide_eq_true (by omega))]
  simp only [Bool.not_false, if_true]
  rw [idx_nat l hi, Option.bind_some, Option.bind_some, List.drop_eq_getElem_cons hi, List.any_cons]
  by_cases hx : x < l[i]
  ·rw [decide_eq_true hx, if_pos rfl, app_eq _ _ (by simp; omega), Option.bind_some, Option.bind_some]
   simp only [Option.bind_some]
   rw [app_eq _ _ (by simp; omega), Option.bind_some, w64_succ (by omega), put_loopT l x hl n K (i + 1) _ (by omega) (by omega) (by simp; omega)]
   simp only [Bool.true_or, if_true]
   have e : insI (l[i] :: l.drop (i + 1)) x = x :: l[i] :: l.drop (i + 1) := by rw [insI, if_pos hx]
   rw [e, List.append_assoc, List.append_assoc]; rfl
  ·rw [decide_eq_false hx, if_neg (by simp), Option.bind_some]
   simp only [Option.bind_some]
   rw [app_eq _ _ (by simp; omega), Option.bind_some, w64_succ (by omega), ih K (i + 1) _ (by omega) (by omega) (by simp; omega)]
   have e : insI (l[i] :: l.drop (i + 1)) x = l[i] :: insI (l.drop (i + 1)) x := by rw [insI, if_neg hx]
   rw [e, Bool.false_or]
   cases (l.drop (i + 1)).any fun y => decide (x < y)
   ·simp
   ·simp
theorem insI_end {x : Int} : ∀ {l : List Int}, (l.any fun y => decide (x < y)) = false → insI l x = l ++ [x]
 | [], _ => rfl
 | y :: l, h => by
  rw [List.any_cons, Bool.or_eq_false_iff] at h
  rw [insI, if_neg (of_decide_eq_false h.1), insI_end h.2]; rfl
theorem put_S (l : List Int) (x : Int) (h : l.length ≤ 4000000000) : S.l3Put l x = some (putI l x) := by
 unfold S.l3Put putI
 rw [has_S l x (by omega), Option.bind_some]
 by_cases hx : x ∈ l
 ·rw [if_pos (by simpa using hx), if_pos hx]
 ·have h1 := put_loopF l x (by omega) l.length FUEL 0 [] (by omega) (by rw [FUEL_eq]; omega) (by simp; omega)
  rw [List.drop_zero] at h1
  have h1' : S.l3Put_l1 l x FUEL [] false 0 = _ := h1
  rw [if_neg (by simpa using hx), if_neg hx, h1']
  cases ha : l.any fun y => decide (x < y)
  ·rw [insI_end ha]
   simp only [Bool.false_eq_true, if_false, Option.bind_some, List.nil_append, Bool.not_false, if_true]
   rw [app_eq _ _ (by simp; omega)]; rfl
  ·rfl
def pas1 (a : Int × List Int) (i : Int) : List Int := if inR i 0 ((a.2.length : Int) - 1) && inR (a.2.getD i.toNat 0) 0 9 then [a.2.getD i.toNat 0] else []
def pasL (m : Mt) (a : Int × List Int) : List Int := m.2.1.flatMap (pas1 a)
theorem pas1_len (a : Int × List Int) (i : Int) : (pas1 a i).length ≤ 1 := by unfold pas1; split <;> simp
theorem passed_M (m : Mt) (a : Int × List Int) (hm : m.2.1.length ≤ 1048576) (ha : a.2.length ≤ 1048576) : M.passed m a = some (pasL m a) := by
 unfold M.passed
 rw [flat_loop (M.passed_l1 m a) m.2.1 (pas1 a) (by omega) (fun k x => by rw [M.passed_l1, if_neg (by simp)]) (fun k x i hi hx => by
  have hl : x.length ≤ i := by
   rw [hx]
   exact Nat.le_trans (flatMap_len (pas1 a) (pas1_len a) _) (by rw [List.length_take]; omega)
  rw [M.passed_l1, if_pos (decide_eq_true (by omega)), idx_nat _ hi, Option.bind_some, inM, w64_sm (by omega) (by omega), w64_succ (by omega)]
  unfold pas1
  cases h1 : inR m.2.1[i] 0 ((a.2.length : Int) - 1)
  ·simp
  ·simp only [Option.bind_some, if_true]
   rw [idx_in 0 h1]
   unfold M.isValue
   simp only [Option.bind_some]
   rw [inM]
   simp only [Option.bind_some]
   cases h2 : inR (a.2.getD m.2.1[i].toNat 0) 0 9
   ·simp
   ·simp only [if_true, Bool.and_self]
    rw [app_eq _ _ (by simp; omega)]
    rfl)]
 rfl
theorem passed_S (m : Mt) (a : Int × List Int) (hm : m.2.1.length ≤ 1048576) (ha : a.2.length ≤ 1048576) : S.l30Passed m a = some ((pasL m a).foldl putI []) := by
 unfold S.l30Passed
 obtain ⟨k, s, h1, h2, h3⟩ := loop_inv0 (S.l30Passed_l1 m a) (fun i x => x = ((m.2.1.take i).flatMap (pas1 a)).foldl putI [] ∧ x.length ≤ i) m.2.1.length (by omega) [] ⟨by simp, by simp⟩ (fun k i x hi hx => by
  refine ⟨(pas1 a m.2.1[i]).foldl putI x, ?_, ?_, ?_⟩
  ·rw [S.l30Passed_l1, if_pos (decide_eq_true (by omega)), idx_nat _ hi, Option.bind_some, inS, w64_sm (by omega) (by omega), w64_succ (by omega)]
   unfold pas1
   cases h1 : inR m.2.1[i] 0 ((a.2.length : Int) - 1)
   ·simp
   ·simp only [Option.bind_some, if_true]
    rw [idx_in 0 h1]
    simp only [Option.bind_some]
    rw [inS]
    simp only [Option.bind_some]
    cases h2 : inR (a.2.getD m.2.1[i].toNat 0) 0 9
    ·simp
    ·simp only [if_true, Bool.and_self]
     rw [put_S x _ (by omega)]
     rfl
  ·rw [hx.1, List.take_add_one, List.getElem?_eq_getElem hi, List.flatMap_append, List.foldl_append]
   simp
  ·have := fold_len (pas1 a m.2.1[i]) x
   have := pas1_len a m.2.1[i]
   omega)
 rw [h1, S.l30Passed_l1, if_neg (by simp), h2, List.take_length]; rfl
def disg (l : List Mt) (q : Qu) (s : Int × Int) : List Int := if inR s.1 0 ((q.2.length : Int) - 1) && inR s.2 0 ((l.length : Int) - 1) then pasL (l.getD s.2.toNat (0, [], 0, 0, 0)) (q.2.getD s.1.toNat (0, [])) else []
def disL (l : List Mt) (q : Qu) (st : List (Int × Int)) : List Int := st.flatMap (disg l q)
theorem flat_le {α : Type} (g : α → List Int) (b : Nat) (hg : ∀ x, (g x).length ≤ b) : ∀ l : List α, (l.flatMap g).length ≤ l.length * b
 | [] => by simp
 | a :: l => by
  have h1 := hg a
  have h2 := flat_le g b hg l
  rw [List.flatMap_cons, List.length_append, List.length_cons, Nat.add_mul]; omega
theorem pasL_len (m : Mt) (a : Int × List Int) : (pasL m a).length ≤ m.2.1.length := flatMap_len _ (pas1_len a) _
theorem getD_mem {α : Type} {l : List α} {i : Int} {d : α} (h : inR i 0 ((l.length : Int) - 1) = true) : l.getD i.toNat d ∈ l := by
 rw [inR_iff] at h
 have hi : i.toNat < l.length := by omega
 rw [List.getD_eq_getElem?_getD, List.getElem?_eq_getElem hi]
 simp
theorem disg_len (l : List Mt) (q : Qu) (hl : ∀ m ∈ l, m.2.1.length ≤ 1048576) (s : Int × Int) : (disg l q s).length ≤ 1048576 := by
 unfold disg
 split
 ·rename_i h
  rw [Bool.and_eq_true] at h
  exact Nat.le_trans (pasL_len _ _) (hl _ (getD_mem h.2))
 ·simp
theorem dis_M (l : List Mt) (q : Qu) (st : List (Int × Int)) (h1 : l.length ≤ 1048576) (h2 : q.2.length ≤ 1048576) (h3 : st.length ≤ 1048576) (hl : ∀ m ∈ l, m.2.1.length ≤ 1048576) (hq : ∀ a ∈ q.2, a.2.length ≤ 1048576) :
  M.Disclosed_l1 st q l FUEL [] 0 = some (disL l q st) := by
 refine flat_loop (M.Disclosed_l1 st q l) st (disg l q) (by omega) (fun k x => by rw [M.Disclosed_l1, if_neg (by simp)]) (fun k x i hi hx => ?_)
 have hxl : x.length ≤ i * 1048576 := by
  rw [hx]
  exact Nat.le_trans (flat_le (disg l q) 1048576 (disg_len l q hl) _) (Nat.mul_le_mul_right _ (by rw [List.length_take]; omega))
 rw [M.Disclosed_l1, if_pos (decide_eq_true (by omega)), idx_nat _ hi, Option.bind_some, inM, w64_sm (n := (q.2.length : Int) - 1) (by omega) (by omega), w64_succ (by omega)]
 unfold disg
 cases c1 : inR st[i].1 0 ((q.2.length : Int) - 1)
 ·simp
 ·simp only [Option.bind_some, if_true]
  rw [inM, w64_sm (n := (l.length : Int) - 1) (by omega) (by omega)]
  simp only [Option.bind_some]
  cases c2 : inR st[i].2 0 ((l.length : Int) - 1)
  ·simp
  ·simp only [if_true, Bool.and_self]
   have hm := hl _ (getD_mem (d := (0, [], 0, 0, 0)) c2)
   rw [idx_in (0, [], 0, 0, 0) c2, idx_in (0, []) c1]
   simp only [Option.bind_some]
   rw [passed_M _ _ hm (hq _ (getD_mem c1))]
   simp only [Option.bind_some]
   have hp := pasL_len (l.getD st[i].2.toNat (0, [], 0, 0, 0)) (q.2.getD st[i].1.toNat (0, []))
   have hb : i * 1048576 + 1048576 ≤ 1099511627776 := by omega
   unfold appB
   rw [if_pos (by omega)]
   rfl
theorem asc_len : ∀ (l : List Int) (a b : Int), ascI l → (∀ x ∈ l, a ≤ x ∧ x ≤ b) → a ≤ b + 1 → (l.length : Int) ≤ b - a + 1
 | [], a, b, _, _, h => by simp; omega
 | x :: l, a, b, h, hx, hab => by
  have h' := List.pairwise_cons.1 h
  have h1 := hx x (by simp)
  have := asc_len l (x + 1) b h'.2 (fun y hy => by have := h'.1 y hy; have := hx y (by simp [hy]); omega) (by omega)
  rw [List.length_cons]; omega
theorem pas_val {m : Mt} {a : Int × List Int} {z : Int} (h : z ∈ pasL m a) : 0 ≤ z ∧ z ≤ 9 := by
 obtain ⟨i, _, h⟩ := List.mem_flatMap.1 h
 unfold pas1 at h
 split at h
 ·rename_i hc
  rw [List.mem_singleton] at h
  rw [Bool.and_eq_true, inR_iff, inR_iff] at hc
  rw [h]; exact hc.2
 ·cases h
theorem dis_val {l : List Mt} {q : Qu} {st : List (Int × Int)} {z : Int} (h : z ∈ disL l q st) : 0 ≤ z ∧ z ≤ 9 := by
 obtain ⟨s, _, h⟩ := List.mem_flatMap.1 h
 unfold disg at h
 split at h
 ·exact pas_val h
 ·cases h
theorem fold_S (y x : List Int) (hx : x.length ≤ 1000) (hy : y.length ≤ 1048576) : S.Disclosed_l2 y FUEL x 0 = some (y.foldl putI x) := by
 obtain ⟨k, s, h1, h2, h3⟩ := loop_inv0 (S.Disclosed_l2 y) (fun i z => z = (y.take i).foldl putI x ∧ z.length ≤ 1000 + i) y.length (by omega) x ⟨by simp, by omega⟩ (fun k i z hi hz => by
  refine ⟨putI z y[i], ?_, ?_, ?_⟩
  ·rw [S.Disclosed_l2, if_pos (decide_eq_true (by omega)), idx_nat _ hi, Option.bind_some, put_S _ _ (by omega), Option.bind_some, w64_succ (by omega)]
  ·rw [hz.1, List.take_add_one, List.getElem?_eq_getElem hi, List.foldl_append]; rfl
  ·have := putI_len z y[i]; omega)
 rw [h1, S.Disclosed_l2, if_neg (by simp), h2, List.take_length]
theorem dis_S (l : List Mt) (q : Qu) (st : List (Int × Int)) (h1 : l.length ≤ 1048576) (h2 : q.2.length ≤ 1048576) (h3 : st.length ≤ 1048576) (hl : ∀ m ∈ l, m.2.1.length ≤ 1048576) (hq : ∀ a ∈ q.2, a.2.length ≤ 1048576) :
  ∃ r, S.Disclosed l q st = some r ∧ ascI r ∧ ∀ z, z ∈ r ↔ z ∈ disL l q st := by
 obtain ⟨k, s, g1, g2, g3⟩ := loop_inv0 (S.Disclosed_l1 st q l) (fun i x => ascI x ∧ ∀ z, z ∈ x ↔ z ∈ disL l q (st.take i)) st.length (by omega) [] ⟨List.Pairwise.nil, by simp [disL]⟩ (fun k i x hi hx => by
  have hxl : x.length ≤ 10 := by
   have := asc_len x 0 9 hx.1 (fun z hz => dis_val ((hx.2 z).1 hz)) (by omega)
   omega
  refine ⟨((disg l q st[i]).foldl putI []).foldl putI x, ?_, asc_fold hx.1, fun z => ?_⟩
  ·rw [S.Disclosed_l1, if_pos (decide_eq_true (by omega)), idx_nat _ hi, Option.bind_some, inS, w64_sm (n := (q.2.length : Int) - 1) (by omega) (by omega), w64_succ (by omega)]
   unfold disg
   cases c1 : inR st[i].1 0 ((q.2.length : Int) - 1)
   ·simp
   ·simp only [Option.bind_some, Bool.not_true, Bool.false_eq_true, if_false]
    rw [inS, w64_sm (n := (l.length : Int) - 1) (by omega) (by omega)]
    simp only [Option.bind_some]
    cases c2 : inR st[i].2 0 ((l.length : Int) - 1)
    ·simp
    ·simp only [Bool.not_true, Bool.false_eq_true, if_false, if_true, Bool.and_self]
     have hm := hl _ (getD_mem (d := (0, [], 0, 0, 0)) c2)
     rw [idx_in (0, [], 0, 0, 0) c2, idx_in (0, []) c1]
     simp only [Option.bind_some]
     rw [passed_S _ _ hm (hq _ (getD_mem c1))]
     simp only [Option.bind_some]
     have hp := pasL_len (l.getD st[i].2.toNat (0, [], 0, 0, 0)) (q.2.getD st[i].1.toNat (0, []))
     have hf := fold_len (pasL (l.getD st[i].2.toNat (0, [], 0, 0, 0)) (q.2.getD st[i].1.toNat (0, []))) []
     rw [List.length_nil] at hf
     rw [fold_S _ x (by omega) (by omega), Option.bind_some]
  ·rw [mem_fold, mem_fold, hx.2]
   unfold disL
   rw [List.take_add_one, List.getElem?_eq_getElem hi, List.flatMap_append]
   simp)
 refine ⟨s, ?_, g2, ?_⟩
 ·unfold S.Disclosed
  rw [g1, S.Disclosed_l1, if_neg (by simp)]; rfl
 ·rw [List.take_length] at g3; exact g3
theorem dis_same (l : List Mt) (q : Qu) (st : List (Int × Int)) (h1 : l.length ≤ 1048576) (h2 : q.2.length ≤ 1048576) (h3 : st.length ≤ 1048576) (hl : ∀ m ∈ l, m.2.1.length ≤ 1048576) (hq : ∀ a ∈ q.2, a.2.length ≤ 1048576) :
  ∃ r, S.Disclosed l q st = some r ∧ M.Disclosed l q st = some r ∧ r.length ≤ 10 ∧ ∀ z, z ∈ r ↔ z ∈ disL l q st := by
 obtain ⟨r, e1, e2, e3⟩ := dis_S l q st h1 h2 h3 hl hq
 obtain ⟨g1, g2⟩ := compact_sort (disL l q st)
 have hlen : (disL l q st).length < 4611686018427387904 := by
  have := flat_le (disg l q) 1048576 (disg_len l q hl) st
  unfold disL
  omega
 have e : M.Disclosed l q st = some (Lib.compact (sortL (disL l q st))) := by
  unfold M.Disclosed Slices.Sort_Lint_int Slices.Compact_Lint_int sortI compactI
  rw [dis_M l q st h1 h2 h3 hl hq, Option.bind_some, if_pos hlen]; rfl
 refine ⟨r, e1, ?_, ?_, e3⟩
 ·rw [e, ascI_ext e2 g1 fun z => by rw [e3, g2]]
 ·have := asc_len r 0 9 e2 (fun z hz => dis_val ((e3 z).1 hz)) (by omega)
  omega
theorem same_Disclosed (l : List Mt) (q : Qu) (st : List (Int × Int)) (z1 : SZ.sz l ≤ 1048576) (z2 : SZ.sz q ≤ 1048576) (z3 : SZ.sz st ≤ 1048576) (_ : Rng.r l) (_ : Rng.r q) (_ : Rng.r st) : ∃ r, S.Disclosed l q st = some r ∧ M.Disclosed l q st = some r ∧ SZ.sm r := by
 have s1 := sm_list (sm_of z1)
 have s2 := sm_list (sm_of z2).2
 have s3 := sm_list (sm_of z3)
 obtain ⟨r, e1, e2, e3, _⟩ := dis_same l q st s1.1 s2.1 s3.1 (fun m hm => (sm_list (s1.2 m hm).2.1).1) (fun a ha => (sm_list (s2.2 a ha).2).1)
 exact ⟨r, e1, e2, sm_ints (by omega)⟩

end Go.Gx.Px
