/- Plain laws, many texts in one. Conditions: none. -/
import Derived.Test.YtbfmhlhjkbimmaaGreatDoorPlSp
import Derived.Test.YtbfmhlhjkbimmaaGreatDoorPlTy
set_option linter.unusedVariables false
set_option linter.unusedSimpArgs false
namespace Go.Gx.Px
abbrev Fa := Int × List Int
theorem inS (a b c : Int) : S.l1In a b c = some (inR a b c) := by
 unfold S.l1In inR
 by_cases h : b ≤ a <;> simp [h]
theorem inM (a b c : Int) : M.within a b c = some (inR a b c) := by
 unfold M.within inR
 by_cases h : b ≤ a <;> simp [h]
theorem any_loop {α β : Type} (f : Nat → Int → Option (Sum Unit β)) (a : List α) (q : α → Bool) (b : β) (hn : a.length ≤ 4294967296) (he : ∀ k, f (k + 1) (a.length : Int) = some (.inl ()))
  (hs : ∀ k (i : Nat) (hi : i < a.length), f (k + 1) (i : Int) = if q a[i] then some (.inr b) else f k ((i + 1 : Nat) : Int)) : f FUEL 0 = some (if a.any q then .inr b else .inl ()) := by
 rw [all_loop f a (fun e => !q e) b hn he (fun k i hi => by rw [hs k i hi]; cases q a[i] <;> rfl)]
 have : a.all (fun e => !q e) = !a.any q := by rw [List.any_eq_not_all_not]; simp
 rw [this]; cases a.any q <;> rfl
theorem any_not {α : Type} (l : List α) (q : α → Bool) : l.any (fun e => !q e) = !l.all q := by rw [List.all_eq_not_any_not]; simp

theorem clone_eq (a : List Int) (h : a.length ≤ 1048576) : Slices.Clone_Lint_int a = some a := by
 unfold Slices.Clone_Lint_int; rw [app_eq _ _ (by simp; omega)]; rfl
theorem copyFact_eq (e : Fa) (h : e.2.length ≤ 1048576) : M.copyFact e = some e := by
 unfold M.copyFact; rw [clone_eq _ h]; rfl
theorem copyFacts_id (a : List Fa) (h : SZ.sm a) : M.copyFacts a = some a := by
 obtain ⟨ha, he⟩ := h
 unfold M.copyFacts
 rw [map_loop (M.copyFacts_l1 a) a id (by omega) (fun k x => by rw [M.copyFacts_l1, if_neg (by simp)]) (fun k x i hi hl => by
  rw [M.copyFacts_l1, if_pos (by simpa using hi), idx_nat a hi]
  simp only [Option.bind_some]
  rw [copyFact_eq _ (he _ (List.getElem_mem hi)).2.1, Option.bind_some, app_eq _ _ (by simp; omega), Option.bind_some, w64_succ (by omega)]
  rfl)]
 simp

theorem l2One_eq (r : Int) (v : List Int) (h : v.length ≤ 1048576) : S.l2One r v = some (r, v) := by
 unfold S.l2One; rw [app_eq _ _ (by simp; omega)]; rfl

theorem l2Copy_id (a : List Fa) (h : SZ.sm a) : S.l2Copy a = some a := by
 obtain ⟨ha, he⟩ := h
 unfold S.l2Copy
 rw [map_loop (S.l2Copy_l1 a) a id (by omega) (fun k x => by rw [S.l2Copy_l1, if_neg (by simp)]) (fun k x i hi hl => by
  rw [S.l2Copy_l1, if_pos (by simpa using hi), idx_nat a hi]
  simp only [Option.bind_some]
  rw [l2One_eq _ _ (he _ (List.getElem_mem hi)).2.1, Option.bind_some, app_eq _ _ (by simp; omega), Option.bind_some, w64_succ (by omega)]
  rfl)]
 simp

def pageEnd (a : List Fa) (o n : Int) : Int := if o + n < (List.length a : Int) then o + n else (List.length a : Int)
def pageOf (a : List Fa) (o n : Int) : List Fa × Int × Bool :=
 if inR n 1 9 && inR o 0 (List.length a : Int) then ((a.take (pageEnd a o n).toNat).drop o.toNat, pageEnd a o n, true) else ([], 0, false)
theorem pageOf_sm (a : List Fa) (o n : Int) (h : SZ.sm a) : SZ.sm (pageOf a o n) := by
 unfold pageOf
 split
 ·exact ⟨sm_part h _ _, trivial, trivial⟩
 ·exact ⟨sm_nil, trivial, trivial⟩
theorem PageAt_eq (a : List Fa) (o n : Int) (h : SZ.sm a) : S.PageAt a o n = some (pageOf a o n) ∧ M.PageAt a o n = some (pageOf a o n) := by
 unfold S.PageAt M.PageAt M.isPage pageOf
 rw [inS, inS, inM, inM]
 cases h1 : inR n 1 9
 ·simp
 ·cases h2 : inR o 0 (List.length a : Int)
  ·simp
  ·rw [inR_iff] at h1 h2
   have ha := h.1
   have hw : w64 (o + n) = o + n := w64_sm (by omega) (by omega)
   have hs : sub a o (pageEnd a o n) = some ((a.take (pageEnd a o n).toNat).drop o.toNat) := by
    unfold sub
    rw [if_pos (by unfold pageEnd; split <;> omega)]
   simp only [Option.bind_some, Bool.not_true, Bool.false_eq_true, if_false, hw, Bool.and_true, if_true]
   unfold pageEnd at hs
   rw [hs]
   simp only [Option.bind_some, l2Copy_id _ (sm_part h _ _), copyFacts_id _ (sm_part h _ _)]
   exact ⟨rfl, rfl⟩
theorem szs_append {α : Type} [SZ α] : ∀ (a b : List α), szs (a ++ b) = szs a + szs b
 | [], b => by simp [szs]
 | x :: a, b => by simp only [List.cons_append, szs, szs_append a b]; omega
theorem sz_append {α : Type} [SZ α] (a b : List α) : SZ.sz (a ++ b) = SZ.sz a + SZ.sz b := by
 show (a ++ b).length + szs (a ++ b) = a.length + szs a + (b.length + szs b)
 rw [szs_append, List.length_append]; omega
theorem szs_cons {α : Type} [SZ α] (a : α) (l : List α) : szs (a :: l) = SZ.sz a + szs l := rfl
theorem sz_flatten {α : Type} [SZ α] : ∀ (a : List (List α)), SZ.sz a.flatten ≤ szs a
 | [] => Nat.le_refl _
 | x :: a => by rw [List.flatten_cons, sz_append, szs_cons]; have := sz_flatten a; omega
theorem sz_len {α : Type} [SZ α] (a : List α) : SZ.sz a = a.length + szs a := rfl
theorem szs_take {α : Type} [SZ α] (a : List α) (i : Nat) : szs (a.take i) ≤ szs a := by
 conv => rhs; rw [← List.take_append_drop i a, szs_append]
 omega
theorem Join_loop (f : Nat → List Fa → Int → Option (List Fa)) (a : List (List Fa)) (z : SZ.sz a ≤ 1048576) (he : ∀ k x, f (k + 1) x (a.length : Int) = some x)
  (hs : ∀ k (x : List Fa) (i : Nat) (hi : i < a.length), SZ.sm a[i] → f (k + 1) x (i : Int) = (app x a[i]).bind fun y => f k y (w64 ((i : Int) + 1))) : f FUEL [] 0 = some a.flatten := by
 have hz : a.length + szs a ≤ 1048576 := z
 rw [flat_loop f a id (by omega) he (fun k x i hi hx => by
  rw [hs k x i hi ((sm_of z).2 _ (List.getElem_mem hi))]
  have h1 : x = (a.take i).flatten := by rw [hx]; simp [List.flatMap_id]
  have h2 : (x ++ a[i]).length ≤ 1048576 := by
   have h3 := sz_flatten (a.take (i + 1))
   rw [List.take_add_one, List.getElem?_eq_getElem hi, List.flatten_append, ← h1] at h3
   have h4 := szs_take a (i + 1)
   rw [List.take_add_one, List.getElem?_eq_getElem hi] at h4
   have h5 := sz_len (x ++ a[i])
   simp at h3 h4
   omega
  rw [app_eq _ _ (by simp at h2; omega), Option.bind_some, w64_succ (by omega)]; rfl)]
 simp [List.flatMap_id]
def cmpL : List Int → List Int → Int
 | [], [] => 0
 | [], _ :: _ => -1
 | _ :: _, [] => 1
 | x :: a, y :: b => if x < y then -1 else if y < x then 1 else cmpL a b
def cmpF (a b : Int × List Int) : Int := if a.1 < b.1 then -1 else if b.1 < a.1 then 1 else cmpL a.2 b.2
theorem CompareFacts_S (a b : Int × List Int) (ha : a.2.length ≤ 4294967296) (hb : b.2.length ≤ 4294967296) : S.CompareFacts a b = some (cmpF a b) := by
 unfold S.CompareFacts
 by_cases h0 : a.1 = b.1
 ·have hc : cmpF a b = cmpL a.2 b.2 := by unfold cmpF; rw [if_neg (by omega), if_neg (by omega)]
  rw [hc, if_neg (by simp [h0])]
  have key : ∀ (K i : Nat), i ≤ a.2.length → i ≤ b.2.length → a.2.length < i + K → (S.CompareFacts_l1 a b K (i : Int)).bind (fun o => match o with
    | .inl () => if (decide ((List.length a.2 : Int) < (List.length b.2 : Int))) then some (-1) else if (decide ((List.length b.2 : Int) < (List.length a.2 : Int))) then some 1 else some 0
    | .inr r => some r) = some (cmpL (a.2.drop i) (b.2.drop i)) := by
   intro K
   induction K with
   | zero => intro i h1 h2 h3; omega
   | succ K ih =>
    intro i h1 h2 h3
    rw [S.CompareFacts_l1]
    by_cases hi : i < a.2.length
    ·rw [if_pos (show decide ((i : Int) < (List.length a.2 : Int)) = true by simpa using hi), Option.bind_some]
     by_cases hj : i < b.2.length
     ·rw [if_pos (show decide ((i : Int) < (List.length b.2 : Int)) = true by simpa using hj)]
      simp only [Option.bind_some, idx_nat a.2 hi, idx_nat b.2 hj]
      rw [List.drop_eq_getElem_cons hi, List.drop_eq_getElem_cons hj]
      unfold cmpL
      by_cases g1 : a.2[i] < b.2[i]
      ·simp [g1]
      ·by_cases g2 : b.2[i] < a.2[i]
       ·simp [g1, g2]
       ·simp only [g1, g2, decide_false, Bool.false_eq_true, if_false]
        rw [w64_succ (by omega)]
        exact ih (i + 1) (by omega) (by omega) (by omega)
     ·obtain rfl : i = b.2.length := by omega
      rw [if_neg (by simp), Option.bind_some, List.drop_length, List.drop_eq_getElem_cons hi]
      simp only
      rw [if_neg (by simp; omega), if_pos (by simpa using hi)]
      unfold cmpL; rfl
    ·obtain rfl : i = a.2.length := by omega
     rw [if_neg (by simp), Option.bind_some, if_neg (by simp), Option.bind_some, List.drop_length]
     simp only
     by_cases hj : a.2.length < b.2.length
     ·rw [List.drop_eq_getElem_cons hj]; unfold cmpL; simp [hj]
     ·have : b.2.drop a.2.length = [] := List.drop_eq_nil_of_le (by omega)
      rw [this]; unfold cmpL; simp [hj]; omega
  have h9 := key FUEL 0 (by omega) (by omega) (by rw [FUEL_eq]; omega)
  rw [List.drop_zero, List.drop_zero] at h9
  exact h9
 ·rw [if_pos (by simpa using h0)]
  unfold cmpF
  by_cases h1 : a.1 < b.1
  ·simp [h1]
  ·have : b.1 < a.1 := by omega
   simp [h1, this]
def schOk (s : List Int) : Bool := s.all (fun n => inR n 1 3) && inR (s.length : Int) 1 3
theorem IsSchema_S (s : List Int) (h : s.length ≤ 4294967296) : S.IsSchema s = some (schOk s) := by
 unfold S.IsSchema schOk
 rw [all_loop (S.IsSchema_l1 s) s (fun n => inR n 1 3) false h (fun k => by rw [S.IsSchema_l1, if_neg (by simp)]) (fun k i hi => by
  rw [S.IsSchema_l1, if_pos (by simpa using hi), idx_nat s hi, Option.bind_some, inS, Option.bind_some, w64_succ (by omega)]
  cases inR s[i] 1 3 <;> rfl)]
 cases s.all (fun n => inR n 1 3)
 ·rfl
 ·simp [inS]
def valsOk (l : List Int) : Bool := l.all fun n => inR n 0 9
theorem areValues_M (l : List Int) (h : l.length ≤ 4294967296) : M.areValues l = some (valsOk l) := by
 unfold M.areValues valsOk
 rw [Slices_ContainsFunc_Lint_int_M_areValues_c1_eq l (fun n => !inR n 0 9) h (fun e he => by unfold M.areValues_c1 M.isValue; rw [inM]; rfl), any_not]
 simp
theorem sch_len {s : List Int} (h : schOk s = true) : 1 ≤ s.length ∧ s.length ≤ 3 := by
 unfold schOk at h; rw [Bool.and_eq_true, inR_iff] at h; omega
theorem cmpL_anti : ∀ (a b : List Int), cmpL b a = - cmpL a b
 | [], [] => rfl
 | [], _ :: _ => rfl
 | _ :: _, [] => rfl
 | x :: a, y :: b => by
  unfold cmpL
  by_cases h : x < y
  ·have : ¬ y < x := by omega
   simp [h, this]
  ·by_cases h2 : y < x
   ·simp [h, h2]
   ·simp only [h, h2, if_false]; exact cmpL_anti a b
theorem cmpF_anti (a b : Fa) : cmpF b a = - cmpF a b := by
 unfold cmpF
 by_cases h : a.1 < b.1
 ·have : ¬ b.1 < a.1 := by omega
  simp [h, this]
 ·by_cases h2 : b.1 < a.1
  ·simp [h, h2]
  ·simp only [h, h2, if_false]; exact cmpL_anti _ _
def hasF (l : List Fa) (f : Fa) : Bool := l.any fun e => decide (cmpF e f = 0)
theorem sm_v {l : List Fa} (h : SZ.sm l) {e : Fa} (he : e ∈ l) : e.2.length ≤ 4294967296 := by have := (h.2 e he).2.1; omega
theorem HasFact_S (l : List Fa) (f : Fa) (hl : SZ.sm l) (hf : SZ.sm f) : S.HasFact l f = some (hasF l f) := by
 have h1 := hl.1
 have h2 := hf.2.1
 unfold S.HasFact hasF
 rw [any_loop (S.HasFact_l1 l f) l (fun e => decide (cmpF e f = 0)) true (by omega) (fun k => by rw [S.HasFact_l1, if_neg (by simp)]) (fun k i hi => by
  have := CompareFacts_S l[i] f (sm_v hl (List.getElem_mem hi)) (by omega)
  rw [S.HasFact_l1, if_pos (by simpa using hi), idx_nat l hi, Option.bind_some, show (f.1, f.2) = f from rfl, this, Option.bind_some, w64_succ (by omega)])]
 cases l.any (fun e => decide (cmpF e f = 0)) <;> rfl
def gtF (f e : Fa) : Bool := decide (0 < cmpF e f)
def addF (l : List Fa) (f : Fa) : List Fa := if hasF l f then l else l.take (l.findIdx (gtF f)) ++ [f] ++ l.drop (l.findIdx (gtF f))
theorem findIdx_le {α : Type} (q : α → Bool) (l : List α) : l.findIdx q ≤ l.length := List.findIdx_le_length
theorem sm_add {l : List Fa} {f : Fa} (hl : SZ.sm l) (hf : SZ.sm f) (hn : l.length + 1 ≤ 1048576) : SZ.sm (addF l f) := by
 unfold addF
 split
 ·exact hl
 ·refine ⟨by have := findIdx_le (gtF f) l; simp only [List.length_append, List.length_take, List.length_drop, List.length_cons, List.length_nil]; omega, fun e he => ?_⟩
  rcases List.mem_append.1 he with he | he
  ·rcases List.mem_append.1 he with he | he
   ·exact hl.2 e (List.mem_of_mem_take he)
   ·simp at he; subst he; exact hf
  ·exact hl.2 e (List.mem_of_mem_drop he)
theorem addF_len (l : List Fa) (f : Fa) : (addF l f).length ≤ l.length + 1 := by
 unfold addF
 split
 ·omega
 ·have := findIdx_le (gtF f) l; simp only [List.length_append, List.length_take, List.length_drop, List.length_cons, List.length_nil]; omega
theorem AddFact_S (l : List Fa) (f : Fa) (hl : SZ.sm l) (hf : SZ.sm f) : S.AddFact l f = some (addF l f) := by
 have h1 := hl.1
 have h2 := hf.2.1
 unfold S.AddFact
 rw [show (f.1, f.2) = f from rfl, HasFact_S l f hl hf, Option.bind_some]
 have hone : ∀ (i : Nat) (hi : i < l.length), S.l2One l[i].1 l[i].2 = some l[i] := fun i hi => l2One_eq _ _ (hl.2 _ (List.getElem_mem hi)).2.1
 have hc : ∀ (i : Nat) (hi : i < l.length), S.CompareFacts f l[i] = some (cmpF f l[i]) := fun i hi => CompareFacts_S f l[i] (by omega) (sm_v hl (List.getElem_mem hi))
 have hq : ∀ e : Fa, decide (cmpF f e < 0) = gtF f e := fun e => by unfold gtF; rw [cmpF_anti f e]; congr 1; exact propext ⟨fun h => by omega, fun h => by omega⟩
 unfold addF
 cases hasF l f
 ·simp only [Bool.false_eq_true, if_false]
  generalize hp : l.findIdx (gtF f) = p
  have hple : p ≤ l.length := by rw [← hp]; exact findIdx_le _ _
  obtain ⟨k, s, g1, rfl⟩ := loop_inv0 (fun k (s : List Fa × Bool) i => S.AddFact_l1 l f k s.1 s.2 i) (fun i s => s = if p < i then (l.take p ++ [f] ++ (l.take i).drop p, true) else (l.take i, false)) l.length (by omega) (([] : List Fa), false) (by simp) (fun k i s hi hs => by
   subst hs
   refine ⟨_, ?_, rfl⟩
   have ht : l.take (i + 1) = l.take i ++ [l[i]] := by rw [List.take_add_one, List.getElem?_eq_getElem hi]; rfl
   by_cases c1 : p < i
   ·have e1 : (l.take p ++ [f] ++ (l.take i).drop p) ++ [l[i]] = l.take p ++ [f] ++ (l.take (i + 1)).drop p := by
     rw [ht, List.drop_append_of_le_length (by rw [List.length_take]; omega), List.append_assoc]
    simp only [c1, if_true, show p < i + 1 by omega]
    rw [S.AddFact_l1, if_pos (by simpa using hi), idx_nat l hi]
    simp only [Bool.not_true, Bool.false_eq_true, if_false, Option.bind_some, hone i hi]
    rw [app_eq _ _ (by simp only [List.length_append, List.length_take, List.length_drop, List.length_cons, List.length_nil]; omega), Option.bind_some, w64_succ (by omega), show (l[i].1, l[i].2) = l[i] from rfl, e1]
   ·have hgt : gtF f l[i] = decide (p = i) := by
     by_cases c2 : p = i
     ·subst c2
      have := List.findIdx_getElem (xs := l) (p := gtF f) (w := by rw [hp]; exact hi)
      simp only [hp] at this
      rw [this]; simp
     ·have h9 := List.not_of_lt_findIdx (xs := l) (p := gtF f) (i := i) (by omega)
      simp only [c2, decide_false]
      simpa using h9
    simp only [c1, if_false]
    rw [S.AddFact_l1, if_pos (by simpa using hi), idx_nat l hi]
    simp only [Bool.not_false, if_true, Option.bind_some, hc i hi, hq, hgt, hone i hi]
    by_cases c2 : p = i
    ·subst c2
     simp only [decide_true, if_true, l2One_eq _ _ h2, Option.bind_some, show (f.1, f.2) = f from rfl, show p < p + 1 by omega]
     rw [app_eq _ _ (by simp only [List.length_take, List.length_cons, List.length_nil]; omega)]
     simp only [Option.bind_some]
     rw [app_eq _ _ (by simp only [List.length_append, List.length_take, List.length_cons, List.length_nil]; omega), Option.bind_some, w64_succ (by omega), show (l[p].1, l[p].2) = l[p] from rfl, ht, List.drop_append_of_le_length (by rw [List.length_take]; omega)]
     simp
    ·simp only [c2, decide_false, Bool.false_eq_true, if_false, Option.bind_some, show ¬ p < i + 1 by omega]
     rw [app_eq _ _ (by simp only [List.length_take, List.length_cons, List.length_nil]; omega), Option.bind_some, w64_succ (by omega), show (l[i].1, l[i].2) = l[i] from rfl, ht])
  rw [g1]
  by_cases c1 : p < l.length
  ·simp only [c1, if_true]
   rw [S.AddFact_l1, if_neg (by simp), Option.bind_some]
   simp
  ·have : p = l.length := by omega
   subst this
   simp only [Nat.lt_irrefl, if_false]
   rw [S.AddFact_l1, if_neg (by simp), Option.bind_some]
   simp only [Bool.not_false, if_true, l2One_eq _ _ h2, Option.bind_some]
   rw [app_eq _ _ (by simp only [List.length_take, List.length_cons, List.length_nil]; omega)]
   simp
 ·simp only [if_true]
  obtain ⟨k, s, g1, rfl⟩ := loop_inv0 (fun k (s : List Fa × Bool) i => S.AddFact_l1 l f k s.1 s.2 i) (fun i s => s = (l.take i, true)) l.length (by omega) (([] : List Fa), true) (by simp) (fun k i s hi hs => by
   subst hs
   refine ⟨_, ?_, rfl⟩
   show S.AddFact_l1 l f (k + 1) (l.take i) true i = S.AddFact_l1 l f k (l.take (i + 1)) true _
   rw [S.AddFact_l1, if_pos (by simpa using hi), idx_nat l hi]
   simp only [Bool.not_true, Bool.false_eq_true, if_false, Option.bind_some, hone i hi]
   rw [app_eq _ _ (by simp only [List.length_take, List.length_cons, List.length_nil]; omega), Option.bind_some, w64_succ (by omega), List.take_add_one, List.getElem?_eq_getElem hi]
   rfl)
  rw [g1]
  simp only
  rw [S.AddFact_l1, if_neg (by simp), Option.bind_some]
  simp

theorem w8_mod (x : Int) : w8 x = x % 256 := by
 unfold w8
 simp [IntKind.wrap, IntKind.bits, IntKind.signed]
def enc (n : Nat) : List UInt8 := if h : n < 128 then [UInt8.ofNat n] else UInt8.ofNat (128 + n % 128) :: enc (n / 128)
termination_by n
decreasing_by omega
theorem u8_nat (x : Int) (h0 : 0 ≤ x) (h1 : x < 256) : u8 x = UInt8.ofNat x.toNat := by
 unfold u8; rw [w8_mod]; congr 1; omega
def vv : List UInt8 → Nat
 | [] => 0
 | b :: l => b.toNat % 128 + 128 * vv l
def okG : Bool → List UInt8 → Bool
 | _, [] => false
 | f, [b] => decide (b.toNat < 128) && (f || decide (b.toNat ≠ 0))
 | _, b :: c :: l => decide (128 ≤ b.toNat) && okG false (c :: l)
def hD (a : List UInt8) (i : Nat) : Option (Int × Int) := if okG true (a.take (i + 1)) then some (((vv (a.take (i + 1)) : Nat) : Int), ((i + 1 : Nat) : Int)) else none
abbrev Li := List UInt8
theorem sub_nat {α : Type} (a : List α) (i j : Nat) (h : i ≤ j) (h2 : j ≤ a.length) : sub a (i : Int) (j : Int) = some ((a.take j).drop i) := by
 unfold sub; rw [if_pos ⟨by omega, by omega, by omega⟩]; simp

abbrev Code := List UInt8
theorem band255 (x : Int) : 0 ≤ band x 255 ∧ band x 255 ≤ 255 := by
 unfold band
 rw [w64_eq]
 have h : (BitVec.ofInt 64 x &&& BitVec.ofInt 64 255).toNat ≤ 255 := by
  rw [BitVec.toNat_and]; exact Nat.and_le_right
 rw [w64_id (by omega) (by omega)]
 omega
def Pos (a : Code) (p : Int) : Prop := 0 ≤ p ∧ p ≤ (a.length : Int)
theorem byte_ok (a : Code) (p s : Int) (ha : a.length ≤ 1048576) (hp : Pos a p) : ∃ v q t, S.l1Byte (a, p, s) = some (v, (a, q, t)) ∧ 0 ≤ v ∧ v ≤ 255 ∧ Pos a q := by
 unfold S.l1Byte
 obtain ⟨h0, h1⟩ := hp
 by_cases h : p < (a.length : Int)
 ·obtain ⟨i, rfl⟩ : ∃ i : Nat, p = i := ⟨p.toNat, by omega⟩
  have hi : i < a.length := by omega
  rw [if_pos (by simpa using hi), idx_nat a hi, Option.bind_some, Option.bind_some]
  exact ⟨_, _, _, rfl, (band255 _).1, (band255 _).2, by rw [w64_succ (by omega)]; exact ⟨by omega, by omega⟩⟩
 ·rw [if_neg (by simpa using h), Option.bind_some]
  exact ⟨_, _, _, rfl, (band255 _).1, (band255 _).2, h0, h1⟩
theorem below_ok (a : Code) (p s n : Int) (ha : a.length ≤ 1048576) (hp : Pos a p) (h0 : 0 < n) (h1 : n ≤ 256) : ∃ v q t, S.l1Below (a, p, s) n = some (v, (a, q, t)) ∧ 0 ≤ v ∧ v < n ∧ Pos a q := by
 obtain ⟨v, q, t, e, v0, v1, hq⟩ := byte_ok a p s ha hp
 unfold S.l1Below
 have hz : nz n = some () := by unfold nz; rw [if_neg (by omega)]
 rw [if_neg (by simp; omega), if_pos (by simpa using h1), e, Option.bind_some, hz, Option.bind_some]
 refine ⟨_, _, _, rfl, ?_, ?_, hq⟩
 ·rw [Int.tmod_eq_emod_of_nonneg v0]; exact Int.emod_nonneg _ (by omega)
 ·rw [Int.tmod_eq_emod_of_nonneg v0]; exact Int.emod_lt_of_pos _ h0
theorem pick_ok (a : Code) (p s : Int) (l : List Int) (ha : a.length ≤ 1048576) (hp : Pos a p) (h0 : 0 < l.length) (h1 : l.length ≤ 256) : ∃ v q t, S.l1PickInt (a, p, s) l = some (v, (a, q, t)) ∧ v ∈ l ∧ Pos a q := by
 obtain ⟨v, q, t, e, v0, v1, hq⟩ := below_ok a p s (l.length : Int) ha hp (by omega) (by omega)
 unfold S.l1PickInt
 obtain ⟨i, rfl⟩ : ∃ i : Nat, v = i := ⟨v.toNat, by omega⟩
 have hi : i < l.length := by omega
 rw [e, Option.bind_some, idx_nat l hi, Option.bind_some]
 exact ⟨_, _, _, rfl, List.getElem_mem hi, hq⟩
theorem new_ok (a : Code) (ha : a.length ≤ 1048576) : ∃ t, S.l1New a = some (a, 0, t) := by
 unfold S.l1New
 have key : ∀ (K i : Nat) (x : Int), i ≤ a.length → a.length < i + K → ∃ t, S.l1New_l1 a K x (i : Int) = some t := by
  intro K
  induction K with
  | zero => intro i x h1 h2; omega
  | succ K ih =>
   intro i x h1 h2
   rw [S.l1New_l1]
   by_cases hi : i < a.length
   ·rw [if_pos (by simpa using hi), Option.bind_some]
    by_cases h4 : (i : Int) < 4000
    ·rw [if_pos (by simpa using h4), idx_nat a hi, Option.bind_some, w64_succ (by omega)]
     exact ih (i + 1) _ (by omega) (by omega)
    ·rw [if_neg (by simpa using h4)]; exact ⟨_, rfl⟩
   ·rw [if_neg (by simpa using hi), Option.bind_some, if_neg (by simp)]; exact ⟨_, rfl⟩
 obtain ⟨t, h⟩ := key FUEL 0 (w64 (10101 + (a.length : Int))) (by omega) (by rw [FUEL_eq]; omega)
 have h' : S.l1New_l1 a FUEL (w64 (10101 + (a.length : Int))) 0 = some t := h
 rw [h']
 exact ⟨t, rfl⟩

abbrev Mf := Int × List Int × Int × Int × Int
theorem once_ok (a : Code) (p s n : Int) (ha : a.length ≤ 1048576) (hp : Pos a p) (h0 : 0 < n) (h1 : n ≤ 256) : ∃ (b : Bool) (q t : Int), S.l1Once (a, p, s) n = some (b, (a, q, t)) ∧ Pos a q := by
 obtain ⟨v, q, t, e, -, -, hq⟩ := below_ok a p s n ha hp h0 h1
 unfold S.l1Once
 rw [e, Option.bind_some]
 exact ⟨_, _, _, rfl, hq⟩
theorem below_big (a : Code) (p s n : Int) (ha : a.length ≤ 1048576) (hp : Pos a p) (h0 : 0 < n) : ∃ v q t, S.l1Below (a, p, s) n = some (v, (a, q, t)) ∧ 0 ≤ v ∧ v < n ∧ Pos a q := by
 by_cases h1 : n ≤ 256
 ·exact below_ok a p s n ha hp h0 h1
 ·obtain ⟨v1, q1, t1, e1, a1, b1, p1⟩ := byte_ok a p s ha hp
  obtain ⟨v2, q2, t2, e2, a2, b2, p2⟩ := byte_ok a q1 t1 ha p1
  obtain ⟨v3, q3, t3, e3, a3, b3, p3⟩ := byte_ok a q2 t2 ha p2
  obtain ⟨v4, q4, t4, e4, a4, b4, p4⟩ := byte_ok a q3 t3 ha p3
  unfold S.l1Below
  have hz : nz n = some () := by unfold nz; rw [if_neg (by omega)]
  rw [if_neg (by simp; omega), if_neg (by simpa using h1), e1, Option.bind_some]
  simp only
  rw [e2, Option.bind_some]
  simp only
  rw [e3, Option.bind_some]
  simp only
  rw [e4, Option.bind_some, hz, Option.bind_some]
  simp only
  have hw : w64 (w64 (w64 (w64 (v1 * 16777216) + w64 (v2 * 65536)) + w64 (v3 * 256)) + v4) = v1 * 16777216 + v2 * 65536 + v3 * 256 + v4 := by
   rw [w64_id (n := v1 * 16777216) (by omega) (by omega), w64_id (n := v2 * 65536) (by omega) (by omega), w64_id (n := v3 * 256) (by omega) (by omega), w64_id (n := v1 * 16777216 + v2 * 65536) (by omega) (by omega), w64_id (n := v1 * 16777216 + v2 * 65536 + v3 * 256) (by omega) (by omega), w64_id (by omega) (by omega)]
  rw [hw]
  refine ⟨_, _, _, rfl, ?_, ?_, p4⟩
  ·rw [Int.tmod_eq_emod_of_nonneg (by omega)]; exact Int.emod_nonneg _ (by omega)
  ·rw [Int.tmod_eq_emod_of_nonneg (by omega)]; exact Int.emod_lt_of_pos _ h0
theorem w64_down (n : Nat) (h : n < 4294967296) : w64 (((n + 1 : Nat) : Int) - 1) = (n : Int) := by rw [w64_sm (by omega) (by omega)]; omega
theorem schema_loop (a : Code) (ha : a.length ≤ 1048576) (c : Code × Int × Int) (hc : c.1 = a) : ∀ (n K : Nat) (p s : Int) (l : List Int), n < K → l.length + n ≤ 100 → (∀ x ∈ l, 1 ≤ x ∧ x ≤ 3) → Pos a p → ∃ q t m, S.l2Schema_l1 c K p s l (n : Int) = some (q, t, m) ∧ m.length = l.length + n ∧ (∀ x ∈ m, 1 ≤ x ∧ x ≤ 3) ∧ Pos a q := by
 intro n
 induction n with
 | zero =>
  intro K p s l hK hl hm hp
  obtain ⟨K, rfl⟩ : ∃ k, K = k + 1 := ⟨K - 1, by omega⟩
  rw [S.l2Schema_l1, if_neg (by simp)]
  exact ⟨_, _, _, rfl, by omega, hm, hp⟩
 | succ n ih =>
  intro K p s l hK hl hm hp
  obtain ⟨K, rfl⟩ : ∃ k, K = k + 1 := ⟨K - 1, by omega⟩
  obtain ⟨v1, q1, t1, e1, h0, h1, p1⟩ := below_ok a p s 2 ha hp (by omega) (by omega)
  obtain ⟨b2, q2, t2, e2, p2⟩ := once_ok a q1 t1 4 ha p1 (by omega) (by omega)
  rw [S.l2Schema_l1, if_pos (decide_eq_true (by omega)), hc, e1, Option.bind_some]
  simp only
  rw [e2, Option.bind_some]
  simp only
  have hx : ∃ x, (if b2 = true then some (3 : Int) else some (w64 (1 + v1))) = some x ∧ 1 ≤ x ∧ x ≤ 3 := by
   cases b2
   ·exact ⟨_, rfl, by rw [w64_sm (by omega) (by omega)]; omega, by rw [w64_sm (by omega) (by omega)]; omega⟩
   ·exact ⟨3, rfl, by omega, by omega⟩
  obtain ⟨x, hx1, hx2⟩ := hx
  rw [hx1, Option.bind_some, app_eq _ _ (by simp; omega), Option.bind_some, w64_down n (by omega)]
  obtain ⟨q, t, m, g1, g2, g3, g4⟩ := ih K q2 t2 (l ++ [x]) (by omega) (by simp; omega) (fun y hy => by
   rcases List.mem_append.1 hy with hy | hy
   ·exact hm y hy
   ·rw [List.mem_singleton] at hy; subst hy; exact hx2) p2
  exact ⟨q, t, m, g1, by rw [g2]; simp; omega, g3, g4⟩
theorem schema_ok (a : Code) (p s : Int) (ha : a.length ≤ 1048576) (hp : Pos a p) : ∃ (m : List Int) (q t : Int), S.l2Schema (a, p, s) = some (m, (a, q, t)) ∧ schOk m = true ∧ m.length ≤ 3 ∧ Pos a q := by
 obtain ⟨v1, q1, t1, e1, h0, h1, p1⟩ := below_ok a p s 3 ha hp (by omega) (by omega)
 obtain ⟨n, rfl⟩ : ∃ n : Nat, v1 = n := ⟨v1.toNat, by omega⟩
 obtain ⟨q2, t2, m, e2, hl, hm, p2⟩ := schema_loop a ha (a, p, s) rfl (n + 1) FUEL q1 t1 [] (by rw [FUEL_eq]; omega) (by simp; omega) (fun x hx => by cases hx) p1
 unfold S.l2Schema
 rw [e1, Option.bind_some]
 simp only
 have e3 : w64 (1 + (n : Int)) = ((n + 1 : Nat) : Int) := by rw [w64_sm (by omega) (by omega)]; omega
 rw [e3, e2]
 simp only [List.length_nil, Nat.zero_add] at hl
 refine ⟨m, q2, t2, rfl, ?_, by omega, p2⟩
 unfold schOk
 rw [Bool.and_eq_true, List.all_eq_true, inR_iff]
 exact ⟨fun x hx => inR_iff.2 (hm x hx), by omega⟩
theorem anySchema_ok (a : Code) (p s : Int) (ha : a.length ≤ 1048576) (hp : Pos a p) : ∃ (m : List Int) (q t : Int), S.l2AnySchema (a, p, s) = some (m, (a, q, t)) ∧ Pos a q := by
 obtain ⟨m, q1, t1, e1, -, hl, p1⟩ := schema_ok a p s ha hp
 obtain ⟨b, q2, t2, e2, p2⟩ := once_ok a q1 t1 14 ha p1 (by omega) (by omega)
 unfold S.l2AnySchema
 rw [e1, Option.bind_some]
 simp only
 rw [e2, Option.bind_some]
 simp only
 cases b
 ·exact ⟨m, q2, t2, rfl, p2⟩
 ·obtain ⟨v, q3, t3, e3, -, p3⟩ := pick_ok a q2 t2 [0, 1, 4] ha p2 (by simp) (by simp)
  rw [if_pos rfl, e3, Option.bind_some, app_eq _ _ (by simp; omega)]
  exact ⟨_, q3, t3, rfl, p3⟩
theorem sch_arity {sc : List Int} (h : schOk sc = true) {i : Nat} (hi : i < sc.length) : 1 ≤ sc[i] ∧ sc[i] ≤ 3 := by
 unfold schOk at h
 rw [Bool.and_eq_true, List.all_eq_true] at h
 exact inR_iff.1 (h.1 _ (List.getElem_mem hi))
theorem fact_loop (a : Code) (ha : a.length ≤ 1048576) (sc : List Int) (c : Code × Int × Int) (hc : c.1 = a) (w : Int) (hw : 0 < w ∧ w ≤ 256) (r : Nat) (hr : r < sc.length) (ar : Nat) (har : sc[r] = (ar : Int)) (h3 : ar ≤ 3) :
  ∀ (n K : Nat) (p s : Int) (l : List Int) (i : Nat), i + n = ar → l.length = i → n < K → Pos a p → ∃ q t m, S.l2Fact_l1 sc c w K (r : Int) l p s (i : Int) = some ((r : Int), m, q, t) ∧ m.length = ar ∧ Pos a q := by
 intro n
 induction n with
 | zero =>
  intro K p s l i h1 h2 hK hp
  obtain ⟨K, rfl⟩ : ∃ k, K = k + 1 := ⟨K - 1, by omega⟩
  rw [S.l2Fact_l1, idx_nat sc hr, Option.bind_some, if_neg (by rw [har]; simp; omega)]
  exact ⟨_, _, _, rfl, by omega, hp⟩
 | succ n ih =>
  intro K p s l i h1 h2 hK hp
  obtain ⟨K, rfl⟩ : ∃ k, K = k + 1 := ⟨K - 1, by omega⟩
  obtain ⟨v1, q1, t1, e1, -, -, p1⟩ := below_ok a p s w ha hp hw.1 hw.2
  rw [S.l2Fact_l1, idx_nat sc hr, Option.bind_some, if_pos (by rw [har]; exact decide_eq_true (by omega)), hc, e1, Option.bind_some, app_eq _ _ (by simp; omega), Option.bind_some, w64_succ (by omega)]
  exact ih K q1 t1 _ (i + 1) (by omega) (by simp; omega) (by omega) p1
theorem fact_ok (a : Code) (p s : Int) (sc : List Int) (w : Int) (ha : a.length ≤ 1048576) (hp : Pos a p) (hs : schOk sc = true) (hw : 0 < w ∧ w ≤ 256) :
  ∃ (f : Fa) (q t : Int), S.l2Fact (a, p, s) sc w = some (f, (a, q, t)) ∧ 1 ≤ f.2.length ∧ f.2.length ≤ 3 ∧ Pos a q := by
 have hl := sch_len hs
 obtain ⟨v1, q1, t1, e1, h0, h1, p1⟩ := below_ok a p s (sc.length : Int) ha hp (by omega) (by omega)
 obtain ⟨r, rfl⟩ : ∃ r : Nat, v1 = r := ⟨v1.toNat, by omega⟩
 have hr : r < sc.length := by omega
 have har := sch_arity hs hr
 obtain ⟨ar, har2⟩ : ∃ n : Nat, sc[r] = (n : Int) := ⟨(sc[r]).toNat, by omega⟩
 obtain ⟨q2, t2, m, e2, hm, p2⟩ := fact_loop a ha sc (a, p, s) rfl w hw r hr ar har2 (by omega) ar FUEL q1 t1 [] 0 (by omega) rfl (by rw [FUEL_eq]; omega) p1
 have e2' : S.l2Fact_l1 sc (a, p, s) w FUEL (r : Int) [] q1 t1 0 = some ((r : Int), m, q2, t2) := e2
 unfold S.l2Fact
 rw [e1, Option.bind_some]
 simp only
 rw [e2']
 exact ⟨((r : Int), m), q2, t2, rfl, by show 1 ≤ m.length; omega, by show m.length ≤ 3; omega, p2⟩
theorem mem_addF' {l : List Fa} {f e : Fa} (h : e ∈ addF l f) : e ∈ l ∨ e = f := by
 unfold addF at h
 split at h
 ·exact .inl h
 ·rcases List.mem_append.1 h with h | h
  ·rcases List.mem_append.1 h with h | h
   ·exact .inl (List.mem_of_mem_take h)
   ·exact .inr (List.mem_singleton.1 h)
  ·exact .inl (List.mem_of_mem_drop h)
theorem sm_fact {f : Fa} (h : f.2.length ≤ 1048576) : SZ.sm f := ⟨trivial, sm_ints h⟩
theorem facts_loop (a : Code) (ha : a.length ≤ 1048576) (sc : List Int) (hs : schOk sc = true) (c : Code × Int × Int) (hc : c.1 = a) : ∀ (n K : Nat) (p s : Int) (l : List Fa), n < K → l.length + n ≤ 100 → SZ.sm l → (∀ f ∈ l, f.2.length ≤ 3) → Pos a p → ∃ q t m, S.l2Facts_l1 c sc K p s l (n : Int) = some (q, t, m) ∧ m.length ≤ l.length + n ∧ SZ.sm m ∧ (∀ f ∈ m, f.2.length ≤ 3) ∧ Pos a q := by
 intro n
 induction n with
 | zero =>
  intro K p s l hK hl hm hf hp
  obtain ⟨K, rfl⟩ : ∃ k, K = k + 1 := ⟨K - 1, by omega⟩
  rw [S.l2Facts_l1, if_neg (by simp)]
  exact ⟨_, _, _, rfl, by omega, hm, hf, hp⟩
 | succ n ih =>
  intro K p s l hK hl hm hf hp
  obtain ⟨K, rfl⟩ : ∃ k, K = k + 1 := ⟨K - 1, by omega⟩
  obtain ⟨f, q1, t1, e1, h0, h1, p1⟩ := fact_ok a p s sc 4 ha hp hs ⟨by omega, by omega⟩
  have hsf := sm_fact (f := f) (by omega)
  have hlen := addF_len l f
  rw [S.l2Facts_l1, if_pos (decide_eq_true (by omega)), hc, e1, Option.bind_some]
  simp only
  rw [AddFact_S l f hm hsf, Option.bind_some, w64_down n (by omega)]
  obtain ⟨q, t, m, g1, g2, g3, g4, g5⟩ := ih K q1 t1 (addF l f) (by omega) (by omega) (sm_add hm hsf (by omega)) (fun e he => by
   rcases mem_addF' he with he | rfl
   ·exact hf e he
   ·exact h1) p1
  exact ⟨q, t, m, g1, by omega, g3, g4, g5⟩
theorem facts_ok (a : Code) (p s : Int) (sc : List Int) (most : Int) (ha : a.length ≤ 1048576) (hp : Pos a p) (hs : schOk sc = true) (hm : 0 ≤ most ∧ most ≤ 90) :
  ∃ (l : List Fa) (q t : Int), S.l2Facts (a, p, s) sc most = some (l, (a, q, t)) ∧ (l.length : Int) ≤ most ∧ SZ.sm l ∧ (∀ f ∈ l, f.2.length ≤ 3) ∧ Pos a q := by
 obtain ⟨v1, q1, t1, e1, h0, h1, p1⟩ := below_ok a p s (most + 1) ha hp (by omega) (by omega)
 obtain ⟨n, rfl⟩ : ∃ n : Nat, v1 = n := ⟨v1.toNat, by omega⟩
 obtain ⟨q2, t2, m, e2, hl, hsm, hf, p2⟩ := facts_loop a ha sc hs (a, p, s) rfl n FUEL q1 t1 [] (by rw [FUEL_eq]; omega) (by simp; omega) sm_nil (fun f hf => by cases hf) p1
 unfold S.l2Facts
 rw [w64_sm (by omega) (by omega), e1, Option.bind_some]
 simp only
 rw [e2]
 exact ⟨m, q2, t2, rfl, by simp at hl; omega, hsm, hf, p2⟩
theorem anyFact_ok (a : Code) (p s : Int) (sc : List Int) (ha : a.length ≤ 1048576) (hp : Pos a p) (hs : schOk sc = true) :
  ∃ (f : Fa) (q t : Int), S.l2AnyFact (a, p, s) sc = some (f, (a, q, t)) ∧ f.2.length ≤ 4 ∧ Pos a q := by
 have hl := sch_len hs
 obtain ⟨f, q1, t1, e1, h0, h1, p1⟩ := fact_ok a p s sc 10 ha hp hs ⟨by omega, by omega⟩
 obtain ⟨v2, q2, t2, e2, -, -, p2⟩ := below_ok a q1 t1 8 ha p1 (by omega) (by omega)
 unfold S.l2AnyFact
 rw [IsSchema_S sc (by omega), hs, Option.bind_some, if_pos rfl, e1, Option.bind_some, Option.bind_some]
 simp only
 rw [e2, Option.bind_some]
 simp only
 by_cases c0 : v2 = 0
 ·obtain ⟨v3, q3, t3, e3, -, -, p3⟩ := below_ok a q2 t2 5 ha p2 (by omega) (by omega)
  rw [if_pos (decide_eq_true c0), e3]
  exact ⟨_, q3, t3, rfl, by show f.2.length ≤ 4; omega, p3⟩
 ·rw [if_neg (by simpa using c0)]
  by_cases c1 : v2 = 1
  ·obtain ⟨v3, q3, t3, e3, -, p3⟩ := pick_ok a q2 t2 [-1, 9, 10] ha p2 (by simp) (by simp)
   have hi : idx f.2 0 = some (f.2[0]'(by omega)) := idx_nat f.2 (i := 0) (by omega)
   rw [if_pos (decide_eq_true c1), e3, Option.bind_some, hi]
   exact ⟨_, q3, t3, rfl, by show (f.2.set _ _).length ≤ 4; rw [List.length_set]; omega, p3⟩
  ·rw [if_neg (by simpa using c1)]
   by_cases c2 : v2 = 2
   ·rw [if_pos (decide_eq_true c2), app_eq _ _ (by simp; omega)]
    exact ⟨_, q2, t2, rfl, by show (f.2 ++ [1]).length ≤ 4; simp; omega, p2⟩
   ·rw [if_neg (by simpa using c2)]
    exact ⟨_, q2, t2, rfl, by show f.2.length ≤ 4; omega, p2⟩
theorem anyFacts_ok (a : Code) (p s : Int) (sc : List Int) (ha : a.length ≤ 1048576) (hp : Pos a p) (hs : schOk sc = true) :
  ∃ (l : List Fa) (q t : Int), S.l2AnyFacts (a, p, s) sc = some (l, (a, q, t)) ∧ l.length ≤ 9 ∧ (∀ f ∈ l, f.2.length ≤ 4) ∧ Pos a q := by
 have hl := sch_len hs
 obtain ⟨l, q1, t1, e1, h0, h1, hf, p1⟩ := facts_ok a p s sc 8 ha hp hs ⟨by omega, by omega⟩
 obtain ⟨b, q2, t2, e2, p2⟩ := once_ok a q1 t1 10 ha p1 (by omega) (by omega)
 unfold S.l2AnyFacts
 rw [IsSchema_S sc (by omega), hs, Option.bind_some, if_pos rfl, e1, Option.bind_some, Option.bind_some]
 simp only
 rw [e2, Option.bind_some]
 simp only
 cases b
 ·exact ⟨l, q2, t2, rfl, by omega, fun f h => by have := hf f h; omega, p2⟩
 ·obtain ⟨f, q3, t3, e3, h3, p3⟩ := anyFact_ok a q2 t2 sc ha p2 hs
  rw [if_pos rfl, e3, Option.bind_some, app_eq _ _ (by simp; omega)]
  refine ⟨_, q3, t3, rfl, by simp; omega, fun g hg => ?_, p3⟩
  rcases List.mem_append.1 hg with hg | hg
  ·have := hf g hg; omega
  ·rw [List.mem_singleton] at hg; subst hg; exact h3
theorem method_loop (a : Code) (ha : a.length ≤ 1048576) (sc : List Int) (c : Code × Int × Int) (hc : c.1 = a) (r : Nat) (hr : r < sc.length) (ar : Nat) (har : sc[r] = (ar : Int)) (h3 : ar ≤ 3) (x y z : Int) :
  ∀ (n K : Nat) (p s : Int) (l : List Int) (i : Nat), i + n = ar → l.length ≤ i → n < K → Pos a p → ∃ q t m, S.l5Method_l1 sc c K (r : Int) l x y z p s (i : Int) = some ((r : Int), m, x, y, z, q, t) ∧ m.length ≤ 3 ∧ Pos a q := by
 intro n
 induction n with
 | zero =>
  intro K p s l i h1 h2 hK hp
  obtain ⟨K, rfl⟩ : ∃ k, K = k + 1 := ⟨K - 1, by omega⟩
  rw [S.l5Method_l1, idx_nat sc hr, Option.bind_some, if_neg (by rw [har]; simp; omega)]
  exact ⟨p, s, l, rfl, by omega, hp⟩
 | succ n ih =>
  intro K p s l i h1 h2 hK hp
  obtain ⟨K, rfl⟩ : ∃ k, K = k + 1 := ⟨K - 1, by omega⟩
  obtain ⟨b, q1, t1, e1, p1⟩ := once_ok a p s 3 ha hp (by omega) (by omega)
  rw [S.l5Method_l1, idx_nat sc hr, Option.bind_some, if_pos (by rw [har]; exact decide_eq_true (by omega)), hc, e1, Option.bind_some, w64_succ (by omega)]
  simp only
  cases b
  ·exact ih K q1 t1 l (i + 1) (by omega) (by omega) (by omega) p1
  ·rw [if_pos rfl, app_eq l _ (by simp; omega)]
   exact ih K q1 t1 (l ++ [(i : Int)]) (i + 1) (by omega) (by simp; omega) (by omega) p1
theorem method_ok (a : Code) (p s : Int) (sc : List Int) (ha : a.length ≤ 1048576) (hp : Pos a p) (hs : schOk sc = true) :
  ∃ (f : Mf) (q t : Int), S.l5Method (a, p, s) sc = some (f, (a, q, t)) ∧ f.2.1.length ≤ 3 ∧ Pos a q := by
 have hl := sch_len hs
 obtain ⟨v1, q1, t1, e1, h0, h1, p1⟩ := below_ok a p s (sc.length : Int) ha hp (by omega) (by omega)
 obtain ⟨v2, q2, t2, e2, -, p2⟩ := pick_ok a q1 t1 [0, 0, 0, 1, 2] ha p1 (by simp) (by simp)
 obtain ⟨v3, q3, t3, e3, -, -, p3⟩ := below_ok a q2 t2 5 ha p2 (by omega) (by omega)
 obtain ⟨v4, q4, t4, e4, -, -, p4⟩ := below_ok a q3 t3 6 ha p3 (by omega) (by omega)
 obtain ⟨r, rfl⟩ : ∃ r : Nat, v1 = r := ⟨v1.toNat, by omega⟩
 have hr : r < sc.length := by omega
 have har := sch_arity hs hr
 obtain ⟨ar, har2⟩ : ∃ n : Nat, sc[r] = (n : Int) := ⟨(sc[r]).toNat, by omega⟩
 obtain ⟨q5, t5, m, e5, hm, p5⟩ := method_loop a ha sc (a, p, s) rfl r hr ar har2 (by omega) v2 v3 (w64 (1 + v4)) ar FUEL q4 t4 [] 0 (by omega) (by simp) (by rw [FUEL_eq]; omega) p4
 have e5' : S.l5Method_l1 sc (a, p, s) FUEL (r : Int) [] v2 v3 (w64 (1 + v4)) q4 t4 0 = some ((r : Int), m, v2, v3, w64 (1 + v4), q5, t5) := e5
 unfold S.l5Method
 rw [e1, Option.bind_some]
 simp only
 rw [e2, Option.bind_some]
 simp only
 rw [e3, Option.bind_some]
 simp only
 rw [e4, Option.bind_some]
 simp only
 rw [e5']
 exact ⟨((r : Int), m, v2, v3, w64 (1 + v4)), q5, t5, rfl, hm, p5⟩
theorem methods_loop (a : Code) (ha : a.length ≤ 1048576) (sc : List Int) (hs : schOk sc = true) (c : Code × Int × Int) (hc : c.1 = a) : ∀ (n K : Nat) (p s : Int) (l : List Mf), n < K → l.length + n ≤ 100 → (∀ m ∈ l, m.2.1.length ≤ 100) → Pos a p → ∃ q t m, S.l5Methods_l1 c sc K p s l (n : Int) = some (q, t, m) ∧ m.length = l.length + n ∧ (∀ x ∈ m, x.2.1.length ≤ 100) ∧ Pos a q := by
 intro n
 induction n with
 | zero =>
  intro K p s l hK hl hm hp
  obtain ⟨K, rfl⟩ : ∃ k, K = k + 1 := ⟨K - 1, by omega⟩
  rw [S.l5Methods_l1, if_neg (by simp)]
  exact ⟨_, _, _, rfl, by omega, hm, hp⟩
 | succ n ih =>
  intro K p s l hK hl hm hp
  obtain ⟨K, rfl⟩ : ∃ k, K = k + 1 := ⟨K - 1, by omega⟩
  obtain ⟨f, q1, t1, e1, h1, p1⟩ := method_ok a p s sc ha hp hs
  rw [S.l5Methods_l1, if_pos (decide_eq_true (by omega)), hc, e1, Option.bind_some, app_eq _ _ (by simp; omega), Option.bind_some, w64_down n (by omega)]
  obtain ⟨q, t, m, g1, g2, g3, g4⟩ := ih K q1 t1 (l ++ [f]) (by omega) (by simp; omega) (fun y hy => by
   rcases List.mem_append.1 hy with hy | hy
   ·exact hm y hy
   ·rw [List.mem_singleton] at hy; subst hy; omega) p1
  exact ⟨q, t, m, g1, by rw [g2]; simp; omega, g3, g4⟩
theorem methods_ok (a : Code) (p s : Int) (sc : List Int) (ha : a.length ≤ 1048576) (hp : Pos a p) (hs : schOk sc = true) :
  ∃ (l : List Mf) (q t : Int), S.l5Methods (a, p, s) sc = some (l, (a, q, t)) ∧ l.length ≤ 4 ∧ (∀ m ∈ l, m.2.1.length ≤ 100) ∧ Pos a q := by
 obtain ⟨v1, q1, t1, e1, h0, h1, p1⟩ := below_ok a p s 4 ha hp (by omega) (by omega)
 obtain ⟨n, rfl⟩ : ∃ n : Nat, v1 = n := ⟨v1.toNat, by omega⟩
 obtain ⟨q2, t2, m, e2, hl, hm, p2⟩ := methods_loop a ha sc hs (a, p, s) rfl (n + 1) FUEL q1 t1 [] (by rw [FUEL_eq]; omega) (by simp; omega) (fun x hx => by cases hx) p1
 have e3 : w64 (1 + (n : Int)) = ((n + 1 : Nat) : Int) := by rw [w64_sm (by omega) (by omega)]; omega
 unfold S.l5Methods
 rw [e1, Option.bind_some]
 simp only
 rw [e3, e2]
 exact ⟨m, q2, t2, rfl, by simp at hl; omega, hm, p2⟩
theorem anyMethod_ok (a : Code) (p s : Int) (sc : List Int) (ha : a.length ≤ 1048576) (hp : Pos a p) (hs : schOk sc = true) :
  ∃ (f : Mf) (q t : Int), S.l5AnyMethod (a, p, s) sc = some (f, (a, q, t)) ∧ f.2.1.length ≤ 100 ∧ Pos a q := by
 have hl := sch_len hs
 obtain ⟨f, q1, t1, e1, h1, p1⟩ := method_ok a p s sc ha hp hs
 obtain ⟨v2, q2, t2, e2, -, -, p2⟩ := below_ok a q1 t1 10 ha p1 (by omega) (by omega)
 unfold S.l5AnyMethod
 rw [IsSchema_S sc (by omega), hs, Option.bind_some, if_pos rfl, e1, Option.bind_some, Option.bind_some]
 simp only
 rw [e2, Option.bind_some]
 simp only
 by_cases c0 : v2 = 0
 ·obtain ⟨v3, q3, t3, e3, -, p3⟩ := pick_ok a q2 t2 [-1, 9, 10] ha p2 (by simp) (by simp)
  rw [if_pos (decide_eq_true c0), e3]
  exact ⟨_, q3, t3, rfl, by show f.2.1.length ≤ 100; omega, p3⟩
 ·rw [if_neg (by simpa using c0)]
  by_cases c1 : v2 = 1
  ·obtain ⟨v3, q3, t3, e3, -, -, p3⟩ := below_ok a q2 t2 5 ha p2 (by omega) (by omega)
   rw [if_pos (decide_eq_true c1), e3, Option.bind_some, app_eq _ _ (by simp; omega)]
   exact ⟨_, q3, t3, rfl, by show (f.2.1 ++ [_]).length ≤ 100; simp; omega, p3⟩
  ·rw [if_neg (by simpa using c1)]
   by_cases c2 : v2 = 2
   ·obtain ⟨v3, q3, t3, e3, -, p3⟩ := pick_ok a q2 t2 [0, 99, 100] ha p2 (by simp) (by simp)
    rw [if_pos (decide_eq_true c2), e3]
    exact ⟨_, q3, t3, rfl, by show f.2.1.length ≤ 100; omega, p3⟩
   ·rw [if_neg (by simpa using c2)]
    by_cases c3 : v2 = 3
    ·obtain ⟨v3, q3, t3, e3, -, p3⟩ := pick_ok a q2 t2 [-1, 99, 100] ha p2 (by simp) (by simp)
     rw [if_pos (decide_eq_true c3), e3]
     exact ⟨_, q3, t3, rfl, by show f.2.1.length ≤ 100; omega, p3⟩
    ·rw [if_neg (by simpa using c3)]
     exact ⟨_, q2, t2, rfl, by show f.2.1.length ≤ 100; omega, p2⟩
theorem draw5_ok (a : Code) (p s : Int) (ha : a.length ≤ 1048576) (hp : Pos a p) :
  ∃ (sc : List Int) (l : List Mf) (f : List Fa) (q t : Int), S.l5Draw (a, p, s) = some (sc, l, f, (a, q, t)) ∧ l.length ≤ 5 ∧ (∀ m ∈ l, m.2.1.length ≤ 100) ∧ Pos a q := by
 obtain ⟨sc, q1, t1, e1, hs, -, p1⟩ := schema_ok a p s ha hp
 obtain ⟨l, q2, t2, e2, hl, hm, p2⟩ := methods_ok a q1 t1 sc ha p1 hs
 obtain ⟨f, q3, t3, e3, -, -, -, p3⟩ := facts_ok a q2 t2 sc 8 ha p2 hs ⟨by omega, by omega⟩
 obtain ⟨v4, q4, t4, e4, -, -, p4⟩ := below_ok a q3 t3 20 ha p3 (by omega) (by omega)
 unfold S.l5Draw
 rw [e1, Option.bind_some]
 simp only
 rw [e2, Option.bind_some]
 simp only
 rw [e3, Option.bind_some]
 simp only
 rw [e4, Option.bind_some]
 simp only
 by_cases c0 : v4 = 0
 ·obtain ⟨g, q5, t5, e5, hg, p5⟩ := anyMethod_ok a q4 t4 sc ha p4 hs
  rw [if_pos (decide_eq_true c0), e5, Option.bind_some, app_eq _ _ (by simp; omega)]
  refine ⟨sc, _, f, q5, t5, rfl, by simp; omega, fun m hmm => ?_, p5⟩
  rcases List.mem_append.1 hmm with hmm | hmm
  ·exact hm m hmm
  ·rw [List.mem_singleton] at hmm; subst hmm; exact hg
 ·rw [if_neg (by simpa using c0)]
  by_cases c1 : v4 = 1
  ·obtain ⟨g, q5, t5, e5, -, -, p5⟩ := anyFacts_ok a q4 t4 sc ha p4 hs
   rw [if_pos (decide_eq_true c1), e5]
   exact ⟨sc, l, g, q5, t5, rfl, by omega, hm, p5⟩
  ·rw [if_neg (by simpa using c1)]
   by_cases c2 : v4 = 2
   ·obtain ⟨g, q5, t5, e5, p5⟩ := anySchema_ok a q4 t4 ha p4
    rw [if_pos (decide_eq_true c2), e5]
    exact ⟨g, l, f, q5, t5, rfl, by omega, hm, p5⟩
   ·rw [if_neg (by simpa using c2)]
    exact ⟨sc, l, f, q4, t4, rfl, by omega, hm, p4⟩
theorem access_loop (a : Code) (ha : a.length ≤ 1048576) (l : List Mf) (c : Code × Int × Int) (hc : c.1 = a) (r : Nat) (hr : r < l.length) (hn : l[r].2.1.length ≤ 100) :
  ∀ (n K : Nat) (p s : Int) (v : List Int) (i : Nat), i + n = l[r].2.1.length → v.length = i → n < K → Pos a p → ∃ q t m, S.l5Access_l1 l c K (r : Int) v p s (i : Int) = some ((r : Int), m, q, t) ∧ m.length ≤ 100 ∧ Pos a q := by
 intro n
 induction n with
 | zero =>
  intro K p s v i h1 h2 hK hp
  obtain ⟨K, rfl⟩ : ∃ k, K = k + 1 := ⟨K - 1, by omega⟩
  rw [S.l5Access_l1, idx_nat l hr, Option.bind_some, if_neg (by simp; omega)]
  exact ⟨_, _, _, rfl, by omega, hp⟩
 | succ n ih =>
  intro K p s v i h1 h2 hK hp
  obtain ⟨K, rfl⟩ : ∃ k, K = k + 1 := ⟨K - 1, by omega⟩
  obtain ⟨v1, q1, t1, e1, -, -, p1⟩ := below_ok a p s 4 ha hp (by omega) (by omega)
  rw [S.l5Access_l1, idx_nat l hr, Option.bind_some, if_pos (decide_eq_true (by omega)), hc, e1, Option.bind_some, app_eq _ _ (by simp; omega), Option.bind_some, w64_succ (by omega)]
  exact ih K q1 t1 _ (i + 1) (by omega) (by simp; omega) (by omega) p1
theorem access_ok (a : Code) (p s : Int) (l : List Mf) (ha : a.length ≤ 1048576) (hp : Pos a p) (hl : l.length ≤ 5) (hm : ∀ m ∈ l, m.2.1.length ≤ 100) :
  ∃ (f : Fa) (q t : Int), S.l5Access (a, p, s) l = some (f, (a, q, t)) ∧ f.2.length ≤ 100 ∧ Pos a q := by
 unfold S.l5Access
 by_cases c0 : (l.length : Int) = 0
 ·rw [if_pos (decide_eq_true c0)]
  exact ⟨(0, []), p, s, rfl, by simp, hp⟩
 ·obtain ⟨v1, q1, t1, e1, h0, h1, p1⟩ := below_ok a p s (l.length : Int) ha hp (by omega) (by omega)
  obtain ⟨r, rfl⟩ : ∃ r : Nat, v1 = r := ⟨v1.toNat, by omega⟩
  have hr : r < l.length := by omega
  obtain ⟨q2, t2, m, e2, hml, p2⟩ := access_loop a ha l (a, p, s) rfl r hr (hm _ (List.getElem_mem hr)) l[r].2.1.length FUEL q1 t1 [] 0 (by omega) rfl (by have := hm _ (List.getElem_mem hr); rw [FUEL_eq]; omega) p1
  have e2' : S.l5Access_l1 l (a, p, s) FUEL (r : Int) [] q1 t1 0 = some ((r : Int), m, q2, t2) := e2
  rw [if_neg (by simpa using c0), e1, Option.bind_some]
  simp only
  rw [e2']
  exact ⟨((r : Int), m), q2, t2, rfl, hml, p2⟩
theorem anyAccess_ok (a : Code) (p s : Int) (l : List Mf) (ha : a.length ≤ 1048576) (hp : Pos a p) (hl : l.length ≤ 5) (hm : ∀ m ∈ l, m.2.1.length ≤ 100) :
  ∃ (f : Fa) (q t : Int), S.l5AnyAccess (a, p, s) l = some (f, (a, q, t)) ∧ f.2.length ≤ 101 ∧ Pos a q := by
 obtain ⟨f, q1, t1, e1, h1, p1⟩ := access_ok a p s l ha hp hl hm
 obtain ⟨v2, q2, t2, e2, -, -, p2⟩ := below_ok a q1 t1 12 ha p1 (by omega) (by omega)
 unfold S.l5AnyAccess
 rw [e1, Option.bind_some]
 simp only
 rw [e2, Option.bind_some]
 simp only
 by_cases c0 : v2 = 0
 ·obtain ⟨v3, q3, t3, e3, -, -, p3⟩ := below_ok a q2 t2 7 ha p2 (by omega) (by omega)
  rw [if_pos (decide_eq_true c0), e3]
  exact ⟨_, q3, t3, rfl, by show f.2.length ≤ 101; omega, p3⟩
 ·rw [if_neg (by simpa using c0)]
  by_cases c1 : v2 = 1
  ·obtain ⟨v3, q3, t3, e3, -, p3⟩ := pick_ok a q2 t2 [-1, 3, 10] ha p2 (by simp) (by simp)
   rw [if_pos (decide_eq_true c1), e3, Option.bind_some, app_eq _ _ (by simp; omega)]
   exact ⟨_, q3, t3, rfl, by show (f.2 ++ [v3]).length ≤ 101; simp; omega, p3⟩
  ·rw [if_neg (by simpa using c1)]
   exact ⟨_, q2, t2, rfl, by show f.2.length ≤ 101; omega, p2⟩
theorem all_in {v : List Int} (h : (v.all fun x => inR x 0 9) = true) : ∀ x ∈ v, 0 ≤ x ∧ x ≤ 9 := fun x hx => inR_iff.1 (List.all_eq_true.1 h x hx)
theorem sub_text (a : Li) (i j : Nat) (h : i ≤ j) (h2 : j ≤ a.length) : ∃ r : Str, subS a (i : Int) (j : Int) = some r ∧ List.length r ≤ a.length := by
 have := sub_nat a i j h h2
 exact ⟨_, this, by show ((a.take j).drop i).length ≤ _; rw [List.length_drop, List.length_take]; omega⟩
theorem text_loop (a : Code) (ha : a.length ≤ 1048576) (c : Code × Int × Int) (hc : c.1 = a) (x : Int × (Code × Int × Int)) : ∀ (n K : Nat) (p s : Int) (l : List UInt8), n < K → l.length + n ≤ 100 → Pos a p → ∃ q t m, S.l1Text_l1 c x K p s l (n : Int) = some (q, t, m) ∧ m.length ≤ 100 ∧ Pos a q := by
 intro n
 induction n with
 | zero =>
  intro K p s l hK hl hp
  obtain ⟨K, rfl⟩ : ∃ k, K = k + 1 := ⟨K - 1, by omega⟩
  rw [S.l1Text_l1, if_neg (by simp)]
  exact ⟨p, s, l, rfl, by omega, hp⟩
 | succ n ih =>
  intro K p s l hK hl hp
  obtain ⟨K, rfl⟩ : ∃ k, K = k + 1 := ⟨K - 1, by omega⟩
  obtain ⟨v1, q1, t1, e1, -, -, p1⟩ := byte_ok a p s ha hp
  rw [S.l1Text_l1, if_pos (decide_eq_true (by omega)), hc, e1, Option.bind_some]
  simp only
  have h1 : ∃ y : Int, (if decide (x.1 = 1) = true then some (v1.tmod 2) else some v1) = some y := by split <;> exact ⟨_, rfl⟩
  obtain ⟨y, hy⟩ := h1
  have h2 : ∃ z : Int, (if decide (x.1 = 2) = true then some (w64 (97 + y.tmod 4)) else some y) = some z := by split <;> exact ⟨_, rfl⟩
  obtain ⟨z, hz⟩ := h2
  rw [hy, Option.bind_some, hz, Option.bind_some, app_eq _ _ (by simp; omega), Option.bind_some, w64_down n (by omega)]
  exact ih K q1 t1 _ (by omega) (by simp; omega) p1
theorem spoil_ok (a : Code) (p s : Int) (t : Li) (ha : a.length ≤ 1048576) (hp : Pos a p) (ht : t.length ≤ 100000) : ∃ (r : Str) (q u : Int), S.l1Spoil (a, p, s) t = some (r, (a, q, u)) ∧ List.length r ≤ 400000 := by
 have hdef : S.l1Spoil (a, p, s) t = if (decide ((List.length t : Int) = 0)) then (S.l1Text (a, p, s) 3).bind fun x1 => some (x1.1, (a, x1.2.2.1, x1.2.2.2)) else _ := rfl
 by_cases h0 : (List.length t : Int) = 0
 ·rw [hdef, if_pos (decide_eq_true h0)]
  obtain ⟨v1, q1, t1, e1, -, -, p1⟩ := below_ok a p s 4 ha hp (by omega) (by omega)
  obtain ⟨v2, q2, t2, e2, h2, h3, p2⟩ := below_ok a q1 t1 4 ha p1 (by omega) (by omega)
  obtain ⟨n, rfl⟩ : ∃ n : Nat, v2 = n := ⟨v2.toNat, by omega⟩
  obtain ⟨q3, t3, m, e3, hm, p3⟩ := text_loop a ha (a, p, s) rfl (v1, (a, q1, t1)) n FUEL q2 t2 [] (by rw [FUEL_eq]; omega) (by simp; omega) p2
  unfold S.l1Text
  rw [e1, Option.bind_some]
  simp only
  rw [w64_sm (n := 3 + 1) (by omega) (by omega), show (3 : Int) + 1 = 4 from rfl, e2, Option.bind_some]
  simp only
  rw [e3]
  exact ⟨m, q3, t3, rfl, by show m.length ≤ _; omega⟩
 ·obtain ⟨v1, q1, t1, e1, h1, h2, p1⟩ := below_big a p s (t.length : Int) ha hp (by omega)
  obtain ⟨k, rfl⟩ : ∃ k : Nat, v1 = k := ⟨v1.toNat, by omega⟩
  have hk : k < t.length := by omega
  obtain ⟨v2, q2, t2, e2, -, -, p2⟩ := below_ok a q1 t1 4 ha p1 (by omega) (by omega)
  obtain ⟨s1, f1, g1⟩ := sub_text t 0 k (by omega) (by omega)
  obtain ⟨s2, f2, g2⟩ := sub_text t (k + 1) t.length (by omega) (by omega)
  obtain ⟨s3, f3, g3⟩ := sub_text t k t.length (by omega) (by omega)
  have f1' : subS t 0 (k : Int) = some s1 := f1
  have f2' : subS t (w64 ((k : Int) + 1)) (List.length t : Int) = some s2 := by rw [w64_succ (by omega)]; exact f2
  have hid : idx (α := UInt8) t (k : Int) = some t[k] := idx_nat t hk
  have main : ∃ (r : Str) (q u : Int), ((S.l1Below (a, p, s) (List.length t : Int)).bind fun x2 =>
    (S.l1Below (a, x2.2.2.1, x2.2.2.2) 4).bind fun x3 =>
    if (decide (x3.1 = 0)) then
     (subS t 0 x2.1).bind fun x4 =>
     (subS t (w64 (x2.1 + 1)) (List.length t : Int)).bind fun x5 =>
     (cat x4 x5).bind fun x6 =>
     some (x6, (a, x3.2.2.1, x3.2.2.2))
    else
     if (decide (x3.1 = 1)) then
      (subS t 0 x2.1).bind fun x7 =>
      (subS t x2.1 (List.length t : Int)).bind fun x8 =>
      (S.l1Byte (a, x3.2.2.1, x3.2.2.2)).bind fun x9 =>
      (cat x7 (Str.of ([(u8 x9.1)]))).bind fun x10 =>
      (cat x10 x8).bind fun x11 =>
      some (x11, (a, x9.2.2.1, x9.2.2.2))
     else
      if (decide (x3.1 = 2)) then
       (subS t 0 x2.1).bind fun x12 =>
       some (x12, (a, x3.2.2.1, x3.2.2.2))
      else
       (subS t 0 x2.1).bind fun x13 =>
       (idx (α := UInt8) t x2.1).bind fun x14 =>
       (subS t (w64 (x2.1 + 1)) (List.length t : Int)).bind fun x15 =>
       (S.l1Below (a, x3.2.2.1, x3.2.2.2) 255).bind fun x16 =>
       (cat x13 (Str.of ([(u8 (bxor (w64 (UInt8.toNat x14 : Int)) (w64 (1 + x16.1))))]))).bind fun x17 =>
       (cat x17 x15).bind fun x18 =>
       some (x18, (a, x16.2.2.1, x16.2.2.2))) = some (r, (a, q, u)) ∧ List.length r ≤ 400000 := by
   rw [e1, Option.bind_some]
   simp only
   rw [e2, Option.bind_some]
   simp only
   by_cases c0 : v2 = 0
   ·rw [if_pos (decide_eq_true c0), f1', Option.bind_some, f2', Option.bind_some, cat_ok _ _ (by omega)]
    exact ⟨_, q2, t2, rfl, by rw [catS_len]; omega⟩
   ·rw [if_neg (by simpa using c0)]
    by_cases c1 : v2 = 1
    ·obtain ⟨v3, q3, t3, e3, -, -, p3⟩ := byte_ok a q2 t2 ha p2
     have hl1 : List.length (Str.of [u8 v3]) = 1 := rfl
     rw [if_pos (decide_eq_true c1), f1', Option.bind_some, f3, Option.bind_some, e3, Option.bind_some]
     simp only
     rw [cat_ok _ _ (by rw [hl1]; omega), Option.bind_some, cat_ok _ _ (by rw [catS_len, hl1]; omega)]
     exact ⟨_, q3, t3, rfl, by rw [catS_len, catS_len, hl1]; omega⟩
    ·rw [if_neg (by simpa using c1)]
     by_cases c2 : v2 = 2
     ·rw [if_pos (decide_eq_true c2), f1']
      exact ⟨_, q2, t2, rfl, by omega⟩
     ·obtain ⟨v3, q3, t3, e3, -, -, p3⟩ := below_ok a q2 t2 255 ha p2 (by omega) (by omega)
      have hl1 : List.length (Str.of [u8 (bxor (w64 (t[k].toNat : Int)) (w64 (1 + v3)))]) = 1 := rfl
      rw [if_neg (by simpa using c2), f1', Option.bind_some, hid, Option.bind_some, f2', Option.bind_some, e3, Option.bind_some]
      simp only
      rw [cat_ok _ _ (by rw [hl1]; omega), Option.bind_some, cat_ok _ _ (by rw [catS_len, hl1]; omega)]
      exact ⟨_, q3, t3, rfl, by rw [catS_len, catS_len, hl1]; omega⟩
  obtain ⟨r, q, u, m1, m2⟩ := main
  refine ⟨r, q, u, ?_, m2⟩
  rw [hdef, if_neg (by simpa using h0)]
  exact m1
def okA (f : Fa) : Bool := inR f.1 0 4 && (!decide (3 < (f.2.length : Int)) && valsOk f.2)
def okF (f : Fa) : Bool := inR f.1 0 2 && (inR (f.2.length : Int) 1 3 && valsOk f.2)
def digL (n : Int) : Li := [UInt8.ofNat (48 + n.toNat)]
def dig (n : Int) : Str := digL n
theorem itoa_M (n : Int) (h0 : 0 ≤ n) (h1 : n ≤ 9) : M.FormatInt n = some (Str.of [UInt8.ofNat (48 + n.toNat)]) := by
 have e2 : Lib.decDigits n.toNat = digL n := by rw [Lib.decDigits, dif_pos (by omega)]; rfl
 have e : Strconv.Itoa n = some (dig n) := by
  unfold Strconv.Itoa
  first
  | (unfold itoaS; rw [if_pos ⟨h0, by omega⟩]; exact congrArg some e2)
  | (unfold itoaF; rw [if_pos ⟨by omega, by omega⟩]; exact congrArg some (show Lib.itoa n = digL n by unfold Lib.itoa; rw [if_neg (by omega), e2]))
 unfold M.FormatInt
 rw [e]; rfl
theorem lens_dig : ∀ l : List Int, Lib.lens (l.map digL) = l.length
 | [] => rfl
 | a :: l => by
  have := lens_dig l
  unfold Lib.lens at *
  rw [List.map_cons, List.map_cons, List.sum_cons, this, List.length_cons]
  have : (digL a).length = 1 := rfl
  omega
theorem join_len (l : List Int) (s : Li) (hs : s.length = 1) : (Lib.join (l.map digL) s).length ≤ 2 * l.length := by
 cases l with
 | nil => exact Nat.le_refl _
 | cons a l =>
  rw [List.map_cons, Lib.join_length, ← List.map_cons, lens_dig, hs, List.length_map, List.length_cons]; omega
theorem joined_T (l : List Int) (hl : l.length ≤ 3) (hv : ∀ x ∈ l, 0 ≤ x ∧ x ≤ 9) : M.joined l (str [44]) = some (str (Lib.join (l.map digL) [44])) := by
 have hj := join_len l [44] rfl
 unfold M.joined
 rw [map_loop (M.joined_l1 l) l dig (by omega) (fun k x => by rw [M.joined_l1, if_neg (by simp)]) (fun k x i hi hx => by
  rw [M.joined_l1, if_pos (decide_eq_true (by omega)), idx_nat l hi, Option.bind_some, itoa_M _ (hv _ (List.getElem_mem hi)).1 (hv _ (List.getElem_mem hi)).2, Option.bind_some, app_eq _ _ (by simp; omega), Option.bind_some, w64_succ (by omega)]; rfl), Option.bind_some]
 unfold Strings.Join
 have e : joinS (l.map dig) (str [44]) = some (Lib.join (l.map digL) [44]) := by
  unfold joinS
  exact if_pos ⟨by rw [List.length_map]; omega, Nat.le_trans hj (by omega)⟩
 rw [e]
 rfl
theorem cat_str (a b : Li) (h : a.length + b.length ≤ 4294967296) : cat (str a) (str b) = some (str (a ++ b)) := cat_ok a b h
theorem okA_len {f : Fa} (h : okA f = true) : f.2.length ≤ 3 := by
 unfold okA at h
 simp only [Bool.and_eq_true, Bool.not_eq_true', decide_eq_false_iff_not] at h
 omega
theorem cmpL_refl : ∀ a : List Int, cmpL a a = 0
 | [] => rfl
 | x :: a => by unfold cmpL; rw [if_neg (by omega), if_neg (by omega), cmpL_refl a]
theorem cmpF_refl (a : Fa) : cmpF a a = 0 := by unfold cmpF; rw [if_neg (by omega), if_neg (by omega), cmpL_refl]
theorem SameFacts_refl (l : List Fa) (hl : l.length ≤ 4294967296) (hf : ∀ f ∈ l, f.2.length ≤ 4294967296) : S.SameFacts l l = some true := by
 unfold S.SameFacts
 rw [if_neg (by simp), eq_loop (fun k i => (S.SameFacts_l1 l l k i)) l.length hl (fun k => by rw [S.SameFacts_l1, if_neg (by simp)]) (fun k i hi => by
  have h := hf _ (List.getElem_mem hi)
  rw [S.SameFacts_l1, if_pos (decide_eq_true (by omega)), idx_nat l hi, Option.bind_some, Option.bind_some, CompareFacts_S _ _ h h, cmpF_refl, Option.bind_some, if_neg (by simp), w64_succ (by omega)])]
 rfl

theorem dec_len : ∀ (d n : Nat), n < 10 ^ (d + 1) → (Lib.decDigits n).length ≤ d + 1 := by
 intro d
 induction d with
 | zero =>
  intro n h
  rw [Lib.decDigits, dif_pos (by simpa using h)]; simp
 | succ d ih =>
  intro n h
  rw [Lib.decDigits]
  split
  ·simp
  ·have h2 : n / 10 < 10 ^ (d + 1) := by rw [Nat.div_lt_iff_lt_mul (by omega)]; rw [Nat.pow_succ] at h; exact h
   have := ih (n / 10) h2
   rw [List.length_append]; simp; omega
theorem fi_loop : ∀ (d n K : Nat) (t : Li), 1 ≤ n → n < 10 ^ (d + 1) → n < 4611686018427387904 → d + 1 < K → t.length + d + 1 ≤ 1000000 → S.FormatInt_l1 K (n : Int) (str t) = some (str (Lib.decDigits n ++ t)) := by
 intro d
 induction d with
 | zero =>
  intro n K t h0 h1 h2 hK ht
  obtain ⟨K, rfl⟩ : ∃ k, K = k + 2 := ⟨K - 2, by omega⟩
  have h9 : n < 10 := by simpa using h1
  have e1 : (n : Int).tmod 10 = n := by rw [Int.tmod_eq_emod_of_nonneg (by omega)]; omega
  have e2 : w64 ((n : Int).tdiv 10) = 0 := by rw [Int.tdiv_eq_ediv_of_nonneg (by omega), w64_sm (by omega) (by omega)]; omega
  have e3 : u8 (w64 (48 + (n : Int))) = UInt8.ofNat (48 + n) := by rw [w64_sm (by omega) (by omega), u8_nat _ (by omega) (by omega)]; congr 1
  rw [S.FormatInt_l1, if_pos (by simp; omega), e1, if_neg (by simp), Option.bind_some, e3, e2, show Str.of [UInt8.ofNat (48 + n)] = str [UInt8.ofNat (48 + n)] from rfl, cat_str _ _ (by simp; omega), Option.bind_some, S.FormatInt_l1, if_neg (by simp), Lib.decDigits, dif_pos h9]
 | succ d ih =>
  intro n K t h0 h1 h2 hK ht
  obtain ⟨K, rfl⟩ : ∃ k, K = k + 2 := ⟨K - 2, by omega⟩
  have e1 : (n : Int).tmod 10 = ((n % 10 : Nat) : Int) := by rw [Int.tmod_eq_emod_of_nonneg (by omega)]; omega
  have e2 : w64 ((n : Int).tdiv 10) = ((n / 10 : Nat) : Int) := by rw [Int.tdiv_eq_ediv_of_nonneg (by omega), w64_sm (by omega) (by omega)]; omega
  have e3 : u8 (w64 (48 + ((n % 10 : Nat) : Int))) = UInt8.ofNat (48 + n % 10) := by rw [w64_sm (by omega) (by omega), u8_nat _ (by omega) (by omega)]; congr 1
  rw [S.FormatInt_l1, if_pos (by simp; omega), e1, if_neg (by simp; omega), Option.bind_some, e3, e2, show Str.of [UInt8.ofNat (48 + n % 10)] = str [UInt8.ofNat (48 + n % 10)] from rfl, cat_str _ _ (by simp; omega), Option.bind_some]
  by_cases h9 : n < 10
  ·rw [show n / 10 = 0 by omega, S.FormatInt_l1, if_neg (by simp), Lib.decDigits, dif_pos h9, show n % 10 = n by omega]
  ·have h3 : n / 10 < 10 ^ (d + 1) := by rw [Nat.div_lt_iff_lt_mul (by omega)]; rw [Nat.pow_succ] at h1; exact h1
   rw [ih (n / 10) (K + 1) _ (by omega) h3 (by omega) (by omega) (by simp; omega)]
   conv => rhs; rw [Lib.decDigits, dif_neg h9, List.append_assoc]
theorem fint_S (n : Nat) (h : n < 1000000000) : S.FormatInt (n : Int) = some (str (Lib.decDigits n)) := by
 unfold S.FormatInt
 by_cases h0 : n = 0
 ·subst h0
  rw [if_pos (by simp), Lib.decDigits, dif_pos (by omega)]; rfl
 ·have h1 := fi_loop 8 n FUEL [] (by omega) (by simpa using h) (by omega) (by rw [FUEL_eq]; omega) (by simp)
  rw [List.append_nil] at h1
  have h1' : S.FormatInt_l1 FUEL (n : Int) (str []) = some (str (Lib.decDigits n)) := h1
  rw [if_neg (by simp; omega), h1', Option.bind_some, if_neg (by simp)]
theorem fint_M (n : Nat) (h : n < 1000000000) : M.FormatInt (n : Int) = some (str (Lib.decDigits n)) := by
 unfold M.FormatInt Strconv.Itoa itoaF
 rw [if_pos ⟨by omega, by omega⟩]
 have e : Lib.itoa (n : Int) = Lib.decDigits n := by unfold Lib.itoa; rw [if_neg (by omega)]; rfl
 rw [e]; rfl
theorem digL_dec (n : Nat) (h : n ≤ 9) : digL (n : Int) = Lib.decDigits n := by rw [Lib.decDigits, dif_pos (by omega)]; rfl
theorem fint_dig (x : Int) (h0 : 0 ≤ x) (h1 : x ≤ 9) : S.FormatInt x = some (str (digL x)) := by
 obtain ⟨n, rfl⟩ : ∃ n : Nat, x = n := ⟨x.toNat, by omega⟩
 rw [digL_dec n (by omega)]
 exact fint_S n (by omega)
theorem list_loop (v : List Int) (hv : ∀ x ∈ v, 0 ≤ x ∧ x ≤ 9) (hl : v.length ≤ 1000) : ∀ (n K i : Nat) (t : Li), i + n = v.length → n < K → 1 ≤ i → t.length ≤ 2 * i → S.l2List_l1 v K (str t) (i : Int) = some (str (t ++ Lib.joinTail [44] ((v.drop i).map digL))) := by
 intro n
 induction n with
 | zero =>
  intro K i t h1 hK h0 ht
  obtain ⟨K, rfl⟩ : ∃ k, K = k + 1 := ⟨K - 1, by omega⟩
  rw [S.l2List_l1, if_neg (by simp; omega), List.drop_of_length_le (by omega)]
  show some (str t) = some (str (t ++ [])); rw [List.append_nil]
 | succ n ih =>
  intro K i t h1 hK h0 ht
  obtain ⟨K, rfl⟩ : ∃ k, K = k + 1 := ⟨K - 1, by omega⟩
  have hi : i < v.length := by omega
  have hx := hv _ (List.getElem_mem hi)
  have hd : (digL v[i]).length = 1 := rfl
  rw [S.l2List_l1, if_pos (decide_eq_true (by omega)), if_pos (decide_eq_true (by omega)), cat_str _ _ (by simp; omega), Option.bind_some, Option.bind_some, idx_nat v hi, Option.bind_some, fint_dig _ hx.1 hx.2, Option.bind_some, cat_str _ _ (by simp; omega), Option.bind_some, w64_succ (by omega), ih K (i + 1) _ (by omega) (by omega) (by omega) (by simp; omega), List.drop_eq_getElem_cons hi, List.map_cons]
  have e : Lib.joinTail [44] (digL v[i] :: (v.drop (i + 1)).map digL) = [44] ++ digL v[i] ++ Lib.joinTail [44] ((v.drop (i + 1)).map digL) := rfl
  rw [e]; simp only [List.append_assoc]
theorem list_S (v : List Int) (hv : ∀ x ∈ v, 0 ≤ x ∧ x ≤ 9) (hl : v.length ≤ 1000) : S.l2List v = some (str (Lib.join (v.map digL) [44])) := by
 unfold S.l2List
 cases v with
 | nil =>
  rw [FUEL_eq, S.l2List_l1, if_neg (by simp)]; rfl
 | cons a r =>
  have ha := hv a (by simp)
  have hd : (digL a).length = 1 := rfl
  have e0 : idx (a :: r) 0 = some a := rfl
  have h2 := list_loop (a :: r) hv hl r.length (4611686018427387903) 1 (digL a) (by simp; omega) (by simp at hl; omega) (by omega) (by omega)
  have h3 : S.l2List_l1 (a :: r) FUEL (str []) 0 = some (str (digL a ++ Lib.joinTail [44] (r.map digL))) := by
   rw [show FUEL = 4611686018427387903 + 1 from FUEL_eq, S.l2List_l1, if_pos (decide_eq_true (by show (0 : Int) < ((r.length + 1 : Nat) : Int); omega)), if_neg (by simp), Option.bind_some, e0, Option.bind_some, fint_dig _ ha.1 ha.2, Option.bind_some, cat_str _ _ (by simp [hd]), Option.bind_some, List.nil_append, show w64 (0 + 1) = ((1 : Nat) : Int) from w64_sm (by omega) (by omega)]
   exact h2
  rw [h3, List.map_cons, Lib.join_cons]; rfl
def accT (f : Fa) : Li := if okA f then [109] ++ digL f.1 ++ [40] ++ Lib.join (f.2.map digL) [44] ++ [41] else []
theorem accT_len (f : Fa) : (accT f).length ≤ 20 := by
 unfold accT
 split
 ·rename_i h
  have h1 := okA_len h
  have h2 := join_len f.2 [44] rfl
  have h3 : (digL f.1).length = 1 := rfl
  simp only [List.length_append, List.length_cons, List.length_nil]; omega
 ·simp
theorem acc_S (f : Fa) (hf : f.2.length ≤ 4294967296) : S.FormatAccess f = some (str (accT f)) := by
 unfold S.FormatAccess accT okA
 rw [inS]
 cases h1 : inR f.1 0 4
 ·rfl
 ·by_cases h2 : (3 : Int) < (f.2.length : Int)
  ·rw [decide_eq_true h2]; rfl
  ·rw [decide_eq_false h2]
   rw [all_loop (S.FormatAccess_l1 f) f.2 (fun x => inR x 0 9) (str []) hf (fun k => by rw [S.FormatAccess_l1, if_neg (by simp)]) (fun k i hi => by
    rw [S.FormatAccess_l1, if_pos (decide_eq_true (by omega)), idx_nat _ hi, Option.bind_some, inS, Option.bind_some, w64_succ (by omega)]
    cases inR f.2[i] 0 9 <;> rfl)]
   have hval : valsOk f.2 = f.2.all fun x => inR x 0 9 := rfl
   rw [hval]
   cases h3 : f.2.all fun x => inR x 0 9
   ·rfl
   ·rw [inR_iff] at h1
    have hj := join_len f.2 [44] rfl
    have hd : (digL f.1).length = 1 := rfl
    simp only [Option.bind_some, Bool.not_true, Bool.false_eq_true, if_false, if_true, Bool.not_false, Bool.and_self]
    rw [fint_dig _ (by omega) (by omega), Option.bind_some, cat_str _ _ (by simp; omega), Option.bind_some, cat_str _ _ (by simp; omega), Option.bind_some, list_S f.2 (all_in h3) (by omega), Option.bind_some, cat_str _ _ (by simp; omega), Option.bind_some, cat_str _ _ (by simp; omega)]
    rfl
theorem acc_M (f : Fa) (hf : f.2.length ≤ 4294967296) : M.FormatAccess f = some (str (accT f)) := by
 unfold M.FormatAccess accT okA
 rw [inM]
 cases h1 : inR f.1 0 4
 ·rfl
 ·by_cases h2 : (3 : Int) < (f.2.length : Int)
  ·rw [decide_eq_true h2]; rfl
  ·rw [decide_eq_false h2, areValues_M _ hf]
   cases h3 : valsOk f.2
   ·rfl
   ·rw [inR_iff] at h1
    have hj := join_len f.2 [44] rfl
    have hd : (digL f.1).length = 1 := rfl
    have a1 : M.FormatInt f.1 = some (str (digL f.1)) := itoa_M f.1 (by omega) (by omega)
    simp only [Option.bind_some, Bool.not_true, Bool.false_eq_true, if_false, if_true, Bool.not_false, Bool.and_self]
    rw [a1, Option.bind_some, cat_str _ _ (by simp; omega), Option.bind_some, cat_str _ _ (by simp; omega), Option.bind_some, joined_T f.2 (by omega) (all_in h3), Option.bind_some, cat_str _ _ (by simp; omega), Option.bind_some, cat_str _ _ (by simp; omega)]
    rfl
abbrev Cu := Fa × Int × Int
def curT (c : Cu) : Li := if okA c.1 && (inR c.2.1 0 1000 && inR c.2.2 0 1000) then accT c.1 ++ [43] ++ Lib.decDigits c.2.1.toNat ++ [64] ++ Lib.decDigits c.2.2.toNat else []
theorem accT_nil (f : Fa) : decide (str (accT f) = str []) = !okA f := by
 cases h : okA f
 ·unfold accT; rw [h]; exact decide_eq_true rfl
 ·refine decide_eq_false fun e => ?_
  have e' : accT f = [] := e
  unfold accT at e'
  rw [h, if_pos rfl] at e'
  have := congrArg List.length e'
  simp at this
theorem cur_S (c : Cu) (h : c.1.2.length ≤ 4294967296) : S.FormatCursor c = some (str (curT c)) := by
 unfold S.FormatCursor curT
 rw [show (c.1.1, c.1.2) = c.1 from rfl, acc_S _ h, Option.bind_some, accT_nil, inS, inS]
 cases h1 : okA c.1
 ·rfl
 ·cases h2 : inR c.2.1 0 1000
  ·rfl
  ·cases h3 : inR c.2.2 0 1000
   ·rfl
   ·rw [inR_iff] at h2 h3
    have h4 := accT_len c.1
    obtain ⟨m, hm⟩ : ∃ m : Nat, c.2.1 = m := ⟨c.2.1.toNat, by omega⟩
    obtain ⟨n, hn⟩ : ∃ n : Nat, c.2.2 = n := ⟨c.2.2.toNat, by omega⟩
    have h5 := dec_len 3 m (by simp; omega)
    have h6 := dec_len 3 n (by simp; omega)
    rw [hm, hn]
    simp only [Option.bind_some, Bool.not_true, Bool.false_eq_true, if_false, if_true, Bool.and_self, Int.toNat_natCast]
    rw [cat_str _ _ (by simp; omega), Option.bind_some, fint_S m (by omega), Option.bind_some, cat_str _ _ (by simp; omega), Option.bind_some, cat_str _ _ (by simp; omega), Option.bind_some, fint_S n (by omega), Option.bind_some, cat_str _ _ (by simp; omega)]
    rfl
theorem cur_M (c : Cu) (h : c.1.2.length ≤ 4294967296) : M.FormatCursor c = some (str (curT c)) := by
 unfold M.FormatCursor curT
 rw [show (c.1.1, c.1.2) = c.1 from rfl, acc_M _ h, Option.bind_some, accT_nil, inM, inM]
 cases h1 : okA c.1
 ·rfl
 ·cases h2 : inR c.2.1 0 1000
  ·rfl
  ·cases h3 : inR c.2.2 0 1000
   ·rfl
   ·rw [inR_iff] at h2 h3
    have h4 := accT_len c.1
    obtain ⟨m, hm⟩ : ∃ m : Nat, c.2.1 = m := ⟨c.2.1.toNat, by omega⟩
    obtain ⟨n, hn⟩ : ∃ n : Nat, c.2.2 = n := ⟨c.2.2.toNat, by omega⟩
    have h5 := dec_len 3 m (by simp; omega)
    have h6 := dec_len 3 n (by simp; omega)
    rw [hm, hn]
    simp only [Option.bind_some, Bool.not_true, Bool.false_eq_true, if_false, if_true, Bool.and_self, Int.toNat_natCast]
    rw [cat_str _ _ (by simp; omega), Option.bind_some, fint_M m (by omega), Option.bind_some, cat_str _ _ (by simp; omega), Option.bind_some, cat_str _ _ (by simp; omega), Option.bind_some, fint_M n (by omega), Option.bind_some, cat_str _ _ (by simp; omega)]
    rfl
theorem curT_len (c : Cu) : (curT c).length ≤ 1000 := by
 unfold curT
 split
 ·rename_i h
  simp only [Bool.and_eq_true, inR_iff] at h
  have h4 := accT_len c.1
  have h5 := dec_len 3 c.2.1.toNat (by simp; omega)
  have h6 := dec_len 3 c.2.2.toNat (by simp; omega)
  simp only [List.length_append, List.length_cons, List.length_nil]; omega
 ·simp
theorem slen (a : Li) : List.length (str a) = a.length := rfl
def cutL (c : UInt8) : Li → Li → List Li
 | p, [] => [p]
 | p, x :: r => if x = c then p :: cutL c [] r else cutL c (p ++ [x]) r
theorem cutL_none (c : UInt8) : ∀ (a p : Li), c ∉ a → cutL c p a = [p ++ a]
 | [], p, _ => by simp [cutL]
 | x :: a, p, h => by
  simp only [List.mem_cons, not_or] at h
  rw [cutL, if_neg (fun e => h.1 e.symm), cutL_none c a _ h.2]; simp
theorem cutL_some (c : UInt8) (b : Li) : ∀ (a p : Li), c ∉ a → cutL c p (a ++ c :: b) = (p ++ a) :: cutL c [] b
 | [], p, _ => by simp [cutL]
 | x :: a, p, h => by
  simp only [List.mem_cons, not_or] at h
  rw [List.cons_append, cutL, if_neg (fun e => h.1 e.symm), cutL_some c b a _ h.2]; simp
theorem cutL_len (c : UInt8) : ∀ (a p : Li), (cutL c p a).length ≤ a.length + 1
 | [], p => by simp [cutL]
 | x :: a, p => by
  rw [cutL]; split
  ·have := cutL_len c a []; simp; omega
  ·have := cutL_len c a (p ++ [x]); simp; omega
theorem cutL_part (c : UInt8) : ∀ (a p x : Li), x ∈ cutL c p a → x.length ≤ p.length + a.length
 | [], p, x, h => by simp [cutL] at h; subst h; simp
 | y :: a, p, x, h => by
  rw [cutL] at h; split at h
  ·rcases List.mem_cons.1 h with rfl | h
   ·simp
   ·have := cutL_part c a [] x h; simp at this ⊢; omega
  ·have := cutL_part c a _ x h; simp at this ⊢; omega
theorem sub_one (a : Li) {i : Nat} (h : i < a.length) : subS (str a) (i : Int) ((i + 1 : Nat) : Int) = some (str [a[i]]) := by
 unfold subS sub
 rw [if_pos ⟨by omega, by omega, by show ((i + 1 : Nat) : Int) ≤ ((a.length : Nat) : Int); omega⟩, Int.toNat_natCast, Int.toNat_natCast]
 show some (List.drop i (List.take (i + 1) a)) = some [a[i]]
 rw [List.take_add_one, List.getElem?_eq_getElem h, List.drop_append_of_le_length (by simp; omega), List.drop_of_length_le (by simp; omega)]
 rfl
theorem idx_str (a : Li) {i : Nat} (h : i < a.length) : idx (α := UInt8) (str a) (i : Int) = some a[i] := idx_nat a h
theorem cut_loop (a : Li) (c : UInt8) (hl : a.length ≤ 2000000) : ∀ (n K i : Nat) (xs : List Str) (p : Li), i + n = a.length → n < K → xs.length ≤ i → p.length ≤ i →
  ∃ ys q, S.l2Cut_l1 (str a) (c.toNat : Int) K xs (str p) (i : Int) = some (ys, str q) ∧ ys ++ [str q] = xs ++ (cutL c p (a.drop i)).map str ∧ ys.length ≤ a.length := by
 intro n
 induction n with
 | zero =>
  intro K i xs p h1 hK h2 h3
  obtain ⟨K, rfl⟩ : ∃ k, K = k + 1 := ⟨K - 1, by omega⟩
  refine ⟨xs, p, ?_, ?_, by omega⟩
  ·rw [S.l2Cut_l1, if_neg (by show ¬ decide ((i : Int) < (a.length : Int)) = true; simp; omega)]
  ·rw [List.drop_of_length_le (by omega)]; simp [cutL]
 | succ n ih =>
  intro K i xs p h1 hK h2 h3
  obtain ⟨K, rfl⟩ : ∃ k, K = k + 1 := ⟨K - 1, by omega⟩
  have hi : i < a.length := by omega
  rw [S.l2Cut_l1, if_pos (decide_eq_true (by have hia : i < List.length (str a) := hi; omega)), idx_str a hi, Option.bind_some, List.drop_eq_getElem_cons hi]
  by_cases hc : a[i] = c
  ·rw [show cutL c p (a[i] :: a.drop (i + 1)) = p :: cutL c [] (a.drop (i + 1)) by rw [cutL, if_pos hc], if_pos (by rw [hc]; simp), app_eq _ _ (by simp; omega), Option.bind_some, Option.bind_some, w64_succ (by omega)]
   obtain ⟨ys, q, e1, e2, e3⟩ := ih K (i + 1) (xs ++ [str p]) [] (by omega) (by omega) (by simp; omega) (by simp)
   refine ⟨ys, q, e1, ?_, e3⟩
   rw [e2]; simp
  ·have hc' : ¬ ((a[i].toNat : Int) = (c.toNat : Int)) := fun e => hc (UInt8.toNat_inj.1 (by omega))
   rw [show cutL c p (a[i] :: a.drop (i + 1)) = cutL c (p ++ [a[i]]) (a.drop (i + 1)) by rw [cutL, if_neg hc], if_neg (by simpa using hc'), w64_succ (by omega), sub_one a hi, Option.bind_some, cat_str _ _ (by simp; omega), Option.bind_some, Option.bind_some]
   exact ih K (i + 1) xs (p ++ [a[i]]) (by omega) (by omega) (by omega) (by simp; omega)
theorem cut_S (a : Li) (c : UInt8) (k : Int) (hk : k = (c.toNat : Int)) (hl : a.length ≤ 2000000) : S.l2Cut (str a) k = some ((cutL c [] a).map str) := by
 subst hk
 obtain ⟨ys, q, e1, e2, e3⟩ := cut_loop a c hl a.length FUEL 0 [] [] (by omega) (by rw [FUEL_eq]; omega) (by simp) (by simp)
 unfold S.l2Cut
 have e1' : S.l2Cut_l1 (str a) (c.toNat : Int) FUEL ([] : List Str) (str []) 0 = some (ys, str q) := e1
 rw [e1', Option.bind_some]
 show (app ys [str q]).bind _ = _
 rw [app_eq _ _ (by simp; omega), Option.bind_some, e2]; rfl
def isD (x : UInt8) : Bool := decide (48 ≤ x.toNat ∧ x.toNat ≤ 57)
def valD (v : Nat) (l : Li) : Nat := l.foldl (fun v x => v * 10 + (x.toNat - 48)) v
theorem dig_toNat {d : Nat} (h : d < 10) : (UInt8.ofNat (48 + d)).toNat = 48 + d := by rw [UInt8.toNat_ofNat']; omega
theorem dec_isD : ∀ (k n : Nat), n ≤ k → (Lib.decDigits n).all isD = true ∧ valD 0 (Lib.decDigits n) = n := by
 intro k
 induction k with
 | zero => intro n h; rw [Lib.decDigits, dif_pos (by omega), show n = 0 by omega]; decide
 | succ k ih =>
  intro n h
  rw [Lib.decDigits]
  split
  ·rename_i h9
   constructor
   ·simp [isD, dig_toNat h9]; omega
   ·simp only [valD, List.foldl_cons, List.foldl_nil, dig_toNat h9]; omega
  ·obtain ⟨h1, h2⟩ := ih (n / 10) (by omega)
   have h3 : n % 10 < 10 := by omega
   constructor
   ·rw [List.all_append, h1]; simp [isD, dig_toNat h3]; omega
   ·unfold valD at h2 ⊢
    rw [List.foldl_append, h2]; simp only [List.foldl_cons, List.foldl_nil, dig_toNat h3]; omega
theorem dec_pos (n : Nat) : 1 ≤ (Lib.decDigits n).length := by
 rw [Lib.decDigits]; split <;> simp
theorem dec_all {n : Nat} {x : UInt8} (h : x ∈ Lib.decDigits n) : 48 ≤ x.toNat ∧ x.toNat ≤ 57 := by
 have := List.all_eq_true.1 (dec_isD n n (Nat.le_refl _)).1 x h
 simpa [isD] using this
theorem puint_ok : ∀ (l : Li) (v m : Nat), l.all isD = true → v < 10 ^ m → m + l.length ≤ 18 → Lib.parseUint10 v l = .ok (valD v l)
 | [], v, m, _, _, _ => rfl
 | x :: l, v, m, h, hv, hm => by
  simp only [List.all_cons, Bool.and_eq_true] at h
  have hx : 48 ≤ x.toNat ∧ x.toNat ≤ 57 := by simpa [isD] using h.1
  have h2 : v < 10 ^ 17 := Nat.lt_of_lt_of_le hv (Nat.pow_le_pow_right (by omega) (by simp at hm; omega))
  have h3 := puint_ok l (v * 10 + (x.toNat - 48)) (m + 1) h.2 (by rw [Nat.pow_succ]; omega) (by simp at hm ⊢; omega)
  rw [Lib.parseUint10, if_pos hx, if_neg (by omega), if_neg (by omega)]
  exact h3
theorem atoi_dec (n : Nat) (h : n < 1000000) : Lib.atoiAll (Lib.decDigits n) = .ok (n : Int) := by
 obtain ⟨h1, h2⟩ := dec_isD n n (Nat.le_refl _)
 have h3 := dec_len 5 n (by simpa using h)
 have h4 := puint_ok _ 0 0 h1 (by simp) (by omega)
 rw [h2] at h4
 unfold Lib.atoiAll
 have hall := fun x (hx : x ∈ Lib.decDigits n) => dec_all hx
 cases hd : Lib.decDigits n with
 | nil => have := dec_pos n; rw [hd] at this; simp at this
 | cons c r =>
  rw [hd] at h4 hall
  have hc := hall c (by simp)
  dsimp only
  rw [if_neg (by omega), Lib.parseMag, if_neg (by simp), h4]
  dsimp only
  rw [if_neg (by omega), if_neg (by omega), if_neg (by omega)]
def atoiR (s : Str) : Int × Bool := match Lib.atoiAll s with | .ok v => (v, false) | .range => (Lib.atoiSat s, true) | _ => (0, true)
theorem atoi_R (s : Str) (h : List.length s < 4294967281) : Strconv.Atoi s = some (atoiR s) := by
 unfold Strconv.Atoi atoiP
 rw [if_pos h]; rfl
theorem pint_M (s : Str) (h : List.length s < 4294967281) : ∃ r, M.ParseInt s = some r := by
 unfold M.ParseInt
 rw [atoi_R s h, Option.bind_some]
 generalize atoiR s = x
 obtain ⟨v, b⟩ := x
 cases b
 ·simp only [Bool.false_eq_true, if_false, inM, Option.bind_some]
  cases h1 : inR v (-999999999) 999999999
  ·exact ⟨_, rfl⟩
  ·rw [inR_iff] at h1
   have hf : M.FormatInt v = some (str (Lib.itoa v)) := by
    unfold M.FormatInt Strconv.Itoa itoaF
    rw [if_pos ⟨by omega, by omega⟩]; rfl
   simp only [Option.bind_some, Bool.not_true, Bool.false_eq_true, if_false, hf]
   split <;> exact ⟨_, rfl⟩
 ·exact ⟨_, rfl⟩
theorem pint_Md (n : Nat) (h : n < 1000000) : M.ParseInt (str (Lib.decDigits n)) = some ((n : Int), true) := by
 have hl := dec_len 5 n (by simpa using h)
 have e : atoiR (str (Lib.decDigits n)) = ((n : Int), false) := by
  unfold atoiR
  rw [show Lib.atoiAll (str (Lib.decDigits n)) = .ok (n : Int) from atoi_dec n h]
 unfold M.ParseInt
 rw [atoi_R (str (Lib.decDigits n)) (show (Lib.decDigits n).length < 4294967281 by omega), e, Option.bind_some]
 simp only [Bool.false_eq_true, if_false, inM, Option.bind_some]
 rw [show inR (n : Int) (-999999999) 999999999 = true from inR_iff.2 ⟨by omega, by omega⟩, fint_M n (by omega)]
 simp
theorem fi_neg : ∀ (K n : Nat) (t : Str), n < 4611686018427387904 → S.FormatInt_l1 K (-(n : Int)) t = S.FormatInt_l1 K (n : Int) t
 | 0, n, t, _ => rfl
 | K + 1, n, t, h => by
  rw [S.FormatInt_l1, S.FormatInt_l1]
  have e1 : (-(n : Int)).tmod 10 = -((n % 10 : Nat) : Int) := by rw [Int.neg_tmod, Int.tmod_eq_emod_of_nonneg (Int.natCast_nonneg n), Int.natCast_emod]; rfl
  have e2 : (n : Int).tmod 10 = ((n % 10 : Nat) : Int) := by rw [Int.tmod_eq_emod_of_nonneg (by omega)]; omega
  have e3 : w64 ((-(n : Int)).tdiv 10) = -((n / 10 : Nat) : Int) := by rw [Int.neg_tdiv, Int.tdiv_eq_ediv_of_nonneg (by omega), w64_sm (by omega) (by omega)]; omega
  have e4 : w64 ((n : Int).tdiv 10) = ((n / 10 : Nat) : Int) := by rw [Int.tdiv_eq_ediv_of_nonneg (by omega), w64_sm (by omega) (by omega)]; omega
  have e5 : (!decide (-(n : Int) = 0)) = !decide ((n : Int) = 0) := by
   by_cases hn : n = 0 <;> simp [hn]
  rw [e1, e2, e3, e4, e5]
  have e6 : (if decide (-((n % 10 : Nat) : Int) < 0) = true then some (w64 (0 - -((n % 10 : Nat) : Int))) else some (-((n % 10 : Nat) : Int))) = (if decide (((n % 10 : Nat) : Int) < 0) = true then some (w64 (0 - ((n % 10 : Nat) : Int))) else some ((n % 10 : Nat) : Int)) := by
   rw [if_neg (show ¬ decide (((n % 10 : Nat) : Int) < 0) = true by simp; omega)]
   by_cases hz : n % 10 = 0
   ·rw [hz]; rfl
   ·rw [if_pos (decide_eq_true (by omega)), w64_sm (by omega) (by omega)]; congr 1; omega
  rw [e6]
  simp only [fi_neg K (n / 10) _ (by omega)]
theorem fint_any (x : Int) (h0 : -1000000000 < x) (h1 : x < 1000000000) : ∃ r, S.FormatInt x = some (str r) := by
 rcases Int.lt_or_le x 0 with hx | hx
 ·obtain ⟨n, rfl⟩ : ∃ n : Nat, x = -n := ⟨x.natAbs, by omega⟩
  have h2 := fi_loop 8 n FUEL [] (by omega) (by simp; omega) (by omega) (by rw [FUEL_eq]; omega) (by simp)
  rw [List.append_nil] at h2
  have h3 := dec_len 8 n (by simp; omega)
  refine ⟨[45] ++ Lib.decDigits n, ?_⟩
  unfold S.FormatInt
  rw [if_neg (by simp; omega), fi_neg _ _ _ (by omega), h2, Option.bind_some, if_pos (decide_eq_true hx), cat_str _ _ (by simp; omega)]
  rfl
 ·obtain ⟨n, rfl⟩ : ∃ n : Nat, x = n := ⟨x.toNat, by omega⟩
  exact ⟨_, fint_S n (by omega)⟩
theorem w8_sub {x : UInt8} (h : 48 ≤ x.toNat) : w64 (w8 ((x.toNat : Int) - 48)) = ((x.toNat - 48 : Nat) : Int) := by
 have := x.toNat_lt
 rw [w8_mod, w64_sm (by omega) (by omega)]; omega
theorem pi_loop (a : Li) : ∀ (n K i v m : Nat), i + n = 11 → n < K → v < 10 ^ m → m ≤ i → ∃ v' m' : Nat, S.ParseInt_l1 (str a) K (v : Int) (m : Int) (i : Int) = some ((v' : Int), (m' : Int)) ∧ v' < 10 ^ m' ∧ m' ≤ 11 := by
 intro n
 induction n with
 | zero =>
  intro K i v m h1 hK h2 h3
  obtain ⟨K, rfl⟩ : ∃ k, K = k + 1 := ⟨K - 1, by omega⟩
  have hf : (if decide ((i : Int) < (List.length (str a) : Int)) = true then some (decide ((i : Int) < 11)) else some false) = some false := by
   rw [decide_eq_false (show ¬ (i : Int) < 11 by omega)]; split <;> rfl
  refine ⟨v, m, ?_, h2, by omega⟩
  rw [S.ParseInt_l1, hf, Option.bind_some, if_neg (by simp)]
 | succ n ih =>
  intro K i v m h1 hK h2 h3
  obtain ⟨K, rfl⟩ : ∃ k, K = k + 1 := ⟨K - 1, by omega⟩
  by_cases hi : i < a.length
  ·rw [S.ParseInt_l1, if_pos (decide_eq_true (by have hia : i < List.length (str a) := hi; omega)), decide_eq_true (show (i : Int) < 11 by omega), Option.bind_some, if_pos rfl, idx_str a hi, Option.bind_some, Option.bind_some]
   have hv : v < 10 ^ 10 := Nat.lt_of_lt_of_le h2 (Nat.pow_le_pow_right (by omega) (by omega))
   by_cases hd : isD a[i]
   ·have hd' : 48 ≤ a[i].toNat ∧ a[i].toNat ≤ 57 := by simpa [isD] using hd
    rw [if_pos (decide_eq_true (by omega)), decide_eq_true (by omega), Option.bind_some, if_pos rfl, Option.bind_some, w8_sub hd'.1, w64_succ (by omega), w64_succ (by omega), w64_sm (n := (v : Int) * 10) (by omega) (by omega), w64_sm (by omega) (by omega)]
    dsimp only
    rw [show (v : Int) * 10 + ((a[i].toNat - 48 : Nat) : Int) = ((v * 10 + (a[i].toNat - 48) : Nat) : Int) by omega]
    exact ih K (i + 1) _ (m + 1) (by omega) (by omega) (by rw [Nat.pow_succ]; omega) (by omega)
   ·have e : ((if decide (48 ≤ (a[i].toNat : Int)) = true then some (decide ((a[i].toNat : Int) ≤ 57)) else some false)) = some false := by
     have hd' : ¬ (48 ≤ a[i].toNat ∧ a[i].toNat ≤ 57) := by simpa [isD] using hd
     by_cases h4 : 48 ≤ a[i].toNat
     ·rw [if_pos (decide_eq_true (by omega)), decide_eq_false (by omega)]
     ·rw [if_neg (by simp; omega)]
    rw [e, Option.bind_some, if_neg (by simp), Option.bind_some, w64_succ (by omega)]
    exact ih K (i + 1) v m (by omega) (by omega) h2 (by omega)
  ·refine ⟨v, m, ?_, h2, by omega⟩
   rw [S.ParseInt_l1, if_neg (by show ¬ decide ((i : Int) < (a.length : Int)) = true; simp; omega), Option.bind_some, if_neg (by simp)]
theorem pi_all (a : Li) (ha : a.all isD = true) (hl : a.length ≤ 9) : ∀ (n K i v : Nat), i + n = a.length → n < K → v < 10 ^ i → S.ParseInt_l1 (str a) K (v : Int) (i : Int) (i : Int) = some ((valD v (a.drop i) : Int), (a.length : Int)) := by
 intro n
 induction n with
 | zero =>
  intro K i v h1 hK h2
  obtain ⟨K, rfl⟩ : ∃ k, K = k + 1 := ⟨K - 1, by omega⟩
  rw [S.ParseInt_l1, if_neg (by show ¬ decide ((i : Int) < (a.length : Int)) = true; simp; omega), Option.bind_some, if_neg (by simp), List.drop_of_length_le (by omega), show (i : Int) = (a.length : Int) by omega]
  rfl
 | succ n ih =>
  intro K i v h1 hK h2
  obtain ⟨K, rfl⟩ : ∃ k, K = k + 1 := ⟨K - 1, by omega⟩
  have hi : i < a.length := by omega
  have hd : 48 ≤ a[i].toNat ∧ a[i].toNat ≤ 57 := by simpa [isD] using List.all_eq_true.1 ha _ (List.getElem_mem hi)
  have hv : v < 10 ^ 10 := Nat.lt_of_lt_of_le h2 (Nat.pow_le_pow_right (by omega) (by omega))
  rw [S.ParseInt_l1, if_pos (decide_eq_true (by have hia : i < List.length (str a) := hi; omega)), decide_eq_true (show (i : Int) < 11 by omega), Option.bind_some, if_pos rfl, idx_str a hi, Option.bind_some, Option.bind_some, if_pos (decide_eq_true (by omega)), decide_eq_true (by omega), Option.bind_some, if_pos rfl, Option.bind_some, w8_sub hd.1, w64_succ (by omega), w64_sm (n := (v : Int) * 10) (by omega) (by omega), w64_sm (by omega) (by omega)]
  dsimp only
  rw [show (v : Int) * 10 + ((a[i].toNat - 48 : Nat) : Int) = ((v * 10 + (a[i].toNat - 48) : Nat) : Int) by omega, Option.bind_some, ih K (i + 1) _ (by omega) (by omega) (by rw [Nat.pow_succ]; omega), List.drop_eq_getElem_cons hi]
  rfl
theorem pint_S (a : Li) : ∃ r, S.ParseInt (str a) = some r := by
 unfold S.ParseInt
 obtain ⟨v, m, e, hv, hm⟩ := pi_loop a 11 FUEL 0 0 0 (by omega) (by rw [FUEL_eq]; omega) (by simp) (by omega)
 have e' : S.ParseInt_l1 (str a) FUEL 0 0 0 = some ((v : Int), (m : Int)) := e
 rw [e', Option.bind_some]
 dsimp only
 have hx : ∃ b, (if decide (0 < (List.length (str a) : Int)) = true then (idx (α := UInt8) (str a) 0).bind fun x14 => some (decide ((UInt8.toNat x14 : Int) = 45)) else some false) = some b := by
  by_cases h0 : 0 < List.length (str a)
  ·rw [if_pos (decide_eq_true (by omega)), show idx (α := UInt8) (str a) 0 = some (a[0]'h0) from idx_str a h0]; exact ⟨_, rfl⟩
  ·rw [if_neg (by simpa using h0)]; exact ⟨_, rfl⟩
 obtain ⟨b, hb⟩ := hx
 have hy : ∃ y : Int, (if b = true then some (w64 (0 - (v : Int))) else some (v : Int)) = some y ∧ (m ≤ 9 → -1000000000 < y ∧ y < 1000000000) := by
  have h9 : m ≤ 9 → v < 10 ^ 9 := fun h => Nat.lt_of_lt_of_le hv (Nat.pow_le_pow_right (by omega) h)
  have h11 : v < 10 ^ 11 := Nat.lt_of_lt_of_le hv (Nat.pow_le_pow_right (by omega) hm)
  cases b
  ·exact ⟨_, rfl, fun h => by have := h9 h; omega⟩
  ·exact ⟨_, rfl, fun h => by have := h9 h; rw [w64_sm (by omega) (by omega)]; omega⟩
 obtain ⟨y, hy, hr⟩ := hy
 rw [hb, Option.bind_some, hy, Option.bind_some]
 by_cases h9 : m ≤ 9
 ·obtain ⟨q, hq⟩ := fint_any y (hr h9).1 (hr h9).2
  rw [if_neg (by simp; omega), hq]
  split
  ·exact ⟨_, rfl⟩
  ·rw [Option.bind_some, Option.bind_some]; split <;> exact ⟨_, rfl⟩
 ·rw [if_pos (decide_eq_true (by omega))]; exact ⟨_, rfl⟩
theorem num_S (a : Li) : ∃ n, S.l2Num (str a) = some n := by
 obtain ⟨r, e⟩ := pint_S a
 unfold S.l2Num
 rw [e, Option.bind_some]; split <;> exact ⟨_, rfl⟩
theorem num_Sd (n : Nat) (h : n < 1000000) : S.l2Num (str (Lib.decDigits n)) = some (n : Int) := by
 have hl := dec_len 5 n (by simpa using h)
 have h1 := dec_pos n
 obtain ⟨h2, h3⟩ := dec_isD n n (Nat.le_refl _)
 have e := pi_all (Lib.decDigits n) h2 (by omega) (Lib.decDigits n).length FUEL 0 0 (by omega) (by rw [FUEL_eq]; omega) (by simp)
 rw [List.drop_zero, h3] at e
 have e' : S.ParseInt_l1 (str (Lib.decDigits n)) FUEL 0 0 0 = some ((n : Int), ((Lib.decDigits n).length : Int)) := e
 have h0 : 0 < (Lib.decDigits n).length := h1
 have hc := dec_all (List.getElem_mem h0)
 unfold S.l2Num S.ParseInt
 rw [e', Option.bind_some]
 dsimp only
 rw [if_pos (decide_eq_true (show (0 : Int) < (List.length (str (Lib.decDigits n)) : Int) by have := slen (Lib.decDigits n); omega)), show idx (α := UInt8) (str (Lib.decDigits n)) 0 = some ((Lib.decDigits n)[0]'h0) from idx_str _ h0, Option.bind_some, decide_eq_false (by omega), Option.bind_some, if_neg (by simp), Option.bind_some, if_neg (by simp; omega), if_neg (show ¬ decide ((10 : Int) < (List.length (str (Lib.decDigits n)) : Int)) = true by have := slen (Lib.decDigits n); simp; omega), fint_S n (by omega), Option.bind_some]
 simp
def numG (a : Li) : Int := (S.l2Num (str a)).getD 0
theorem numG_eq (a : Li) : S.l2Num (str a) = some (numG a) := by
 obtain ⟨n, e⟩ := num_S a
 unfold numG; rw [e]; rfl
theorem acc2_loop (xs : List Li) (x14 : Int) (hl : xs.length ≤ 2000000) : ∀ (n K i : Nat) (ys : List Int), i + n = xs.length → n < K → ys.length ≤ i → S.l24Access_l2 (xs.map str) K x14 ys (i : Int) = some (x14, ys ++ (xs.drop i).map numG) := by
 intro n
 induction n with
 | zero =>
  intro K i ys h1 hK h2
  obtain ⟨K, rfl⟩ : ∃ k, K = k + 1 := ⟨K - 1, by omega⟩
  rw [S.l24Access_l2, if_neg (by simp; omega), List.drop_of_length_le (by omega)]; simp
 | succ n ih =>
  intro K i ys h1 hK h2
  obtain ⟨K, rfl⟩ : ∃ k, K = k + 1 := ⟨K - 1, by omega⟩
  have hi : i < xs.length := by omega
  have hi' : i < (xs.map str).length := by simpa using hi
  rw [S.l24Access_l2, if_pos (decide_eq_true (by omega)), idx_nat _ hi', Option.bind_some, List.getElem_map, numG_eq, Option.bind_some, app_eq _ _ (by simp; omega), Option.bind_some, w64_succ (by omega), ih K (i + 1) _ (by omega) (by omega) (by simp; omega), List.drop_eq_getElem_cons hi, List.map_cons, List.append_assoc]
  rfl
theorem sub_mid (a : Li) (i j : Nat) (h : i ≤ j) (h2 : j ≤ a.length) : subS (str a) (i : Int) (j : Int) = some (str ((a.take j).drop i)) := by
 unfold subS sub
 rw [if_pos ⟨by omega, by omega, by show ((j : Nat) : Int) ≤ ((a.length : Nat) : Int); omega⟩, Int.toNat_natCast, Int.toNat_natCast]; rfl
def accG (a : Li) (i : Nat) : Fa :=
 (numG ((a.take i).drop 1), if (a.take (a.length - 1)).drop (i + 1) = [] then [] else (cutL 44 [] ((a.take (a.length - 1)).drop (i + 1))).map numG)
theorem acc_hit (a : Li) (hl : a.length ≤ 1500000) (K i : Nat) (x1 : Int) (x2 : List Int) (h0 : 1 ≤ i) (hi : i + 1 < a.length) (hb : a[i] = 40) (he : a[a.length - 1] = 41) (hm : a[0] = 109) :
  S.l24Access_l1 (str a) (K + 1) x1 x2 (i : Int) = some (.inr (accG a i)) := by
 have hw : w64 ((List.length (str a) : Int) - 1) = ((a.length - 1 : Nat) : Int) := by
  show w64 (((a.length : Nat) : Int) - 1) = _
  rw [w64_sm (by omega) (by omega)]; omega
 rw [S.l24Access_l1, if_pos (decide_eq_true (show (i : Int) < (List.length (str a) : Int) by have := slen a; omega)), hw, idx_str a (by omega), idx_str a (show a.length - 1 < a.length by omega), show idx (α := UInt8) (str a) 0 = some (a[0]'(by omega)) from idx_str a (i := 0) (by omega), hb, he, hm, Option.bind_some, if_pos (by decide), Option.bind_some, if_pos (by decide), Option.bind_some, decide_eq_true (by decide), Option.bind_some, if_pos rfl]
 rw [show subS (str a) 1 (i : Int) = some (str ((a.take i).drop 1)) from sub_mid a 1 i h0 (by omega), Option.bind_some, numG_eq, Option.bind_some, w64_succ (by omega), sub_mid a (i + 1) (a.length - 1) (by omega) (by omega), Option.bind_some]
 unfold accG
 by_cases hn : (a.take (a.length - 1)).drop (i + 1) = []
 ·rw [if_pos hn, hn, if_pos (by decide)]
 ·have hn' : ¬ decide (str ((a.take (a.length - 1)).drop (i + 1)) = str []) = true := fun e => hn (of_decide_eq_true e)
  rw [if_neg hn, if_neg hn', cut_S _ 44 44 rfl (by simp; omega), Option.bind_some]
  have hc := cutL_len 44 ((a.take (a.length - 1)).drop (i + 1)) []
  have e := acc2_loop (cutL 44 [] ((a.take (a.length - 1)).drop (i + 1))) (numG ((a.take i).drop 1)) (by simp at hc; omega) _ FUEL 0 [] (by rw [Nat.zero_add]) (by simp at hc; rw [FUEL_eq]; omega) (by simp)
  have e' : S.l24Access_l2 ((cutL 44 [] ((a.take (a.length - 1)).drop (i + 1))).map str) FUEL (numG ((a.take i).drop 1)) [] 0 = some (numG ((a.take i).drop 1), (cutL 44 [] ((a.take (a.length - 1)).drop (i + 1))).map numG) := e
  rw [e', Option.bind_some]
theorem acc_miss (a : Li) (K i : Nat) (x1 : Int) (x2 : List Int) (hl : a.length ≤ 1500000) (hi : i < a.length) (h : ¬ (a[i] = 40 ∧ a[a.length - 1]'(by omega) = 41 ∧ a[0]'(by omega) = 109)) :
  S.l24Access_l1 (str a) (K + 1) x1 x2 (i : Int) = S.l24Access_l1 (str a) K x1 x2 ((i + 1 : Nat) : Int) := by
 have hw : w64 ((List.length (str a) : Int) - 1) = ((a.length - 1 : Nat) : Int) := by
  show w64 (((a.length : Nat) : Int) - 1) = _
  rw [w64_sm (by omega) (by omega)]; omega
 have c40 : ∀ x : UInt8, decide ((x.toNat : Int) = 40) = decide (x = 40) := fun x => by
  rw [decide_eq_decide, ← UInt8.toNat_inj]; show (x.toNat : Int) = 40 ↔ x.toNat = 40; omega
 have c41 : ∀ x : UInt8, decide ((x.toNat : Int) = 41) = decide (x = 41) := fun x => by
  rw [decide_eq_decide, ← UInt8.toNat_inj]; show (x.toNat : Int) = 41 ↔ x.toNat = 41; omega
 have c109 : ∀ x : UInt8, decide ((x.toNat : Int) = 109) = decide (x = 109) := fun x => by
  rw [decide_eq_decide, ← UInt8.toNat_inj]; show (x.toNat : Int) = 109 ↔ x.toNat = 109; omega
 rw [S.l24Access_l1, if_pos (decide_eq_true (show (i : Int) < (List.length (str a) : Int) by have := slen a; omega)), hw, idx_str a hi, idx_str a (show a.length - 1 < a.length by omega), show idx (α := UInt8) (str a) 0 = some (a[0]'(by omega)) from idx_str a (i := 0) (by omega), w64_succ (by omega), Option.bind_some, Option.bind_some, Option.bind_some, c40, c41, c109]
 have e : (if decide (a[i] = 40) = true then (if decide (a[a.length - 1]'(by omega) = 41) = true then some (decide (a[0]'(by omega) = 109)) else some false) else some false) = some false := by
  by_cases g1 : a[i] = 40
  ·by_cases g2 : a[a.length - 1]'(by omega) = 41
   ·have g3 : ¬ a[0]'(by omega) = 109 := fun g3 => h ⟨g1, g2, g3⟩
    rw [if_pos (decide_eq_true g1), if_pos (decide_eq_true g2), decide_eq_false g3]
   ·rw [if_pos (decide_eq_true g1), if_neg (by simpa using g2)]
  ·rw [if_neg (by simpa using g1)]
 rw [e, Option.bind_some, if_neg (by simp)]
theorem accG_len (a : Li) (i : Nat) : (accG a i).2.length ≤ a.length + 1 := by
 unfold accG; dsimp only
 split
 ·simp
 ·have := cutL_len 44 ((a.take (a.length - 1)).drop (i + 1)) []
  rw [List.length_map]
  refine Nat.le_trans this ?_
  simp; omega
theorem acc1_loop (a : Li) (hl : a.length ≤ 1500000) : ∀ (n K i : Nat), i + n = a.length → n < K →
  S.l24Access_l1 (str a) K 0 [] (i : Int) = some (.inl (0, [])) ∨ ∃ r : Fa, S.l24Access_l1 (str a) K 0 [] (i : Int) = some (.inr r) ∧ r.2.length ≤ a.length + 1 := by
 intro n
 induction n with
 | zero =>
  intro K i h1 hK
  obtain ⟨K, rfl⟩ : ∃ k, K = k + 1 := ⟨K - 1, by omega⟩
  left
  rw [S.l24Access_l1, if_neg (by show ¬ decide ((i : Int) < (a.length : Int)) = true; simp; omega)]
 | succ n ih =>
  intro K i h1 hK
  obtain ⟨K, rfl⟩ : ∃ k, K = k + 1 := ⟨K - 1, by omega⟩
  have hi : i < a.length := by omega
  by_cases h : a[i] = 40 ∧ a[a.length - 1]'(by omega) = 41 ∧ a[0]'(by omega) = 109
  ·have h0 : 1 ≤ i := by
    rcases Nat.eq_zero_or_pos i with rfl | h0
    ·exact absurd (h.1.symm.trans h.2.2) (by decide)
    ·exact h0
   have h2 : i + 1 < a.length := by
    rcases Nat.lt_or_ge (i + 1) a.length with h2 | h2
    ·exact h2
    ·have e : i = a.length - 1 := by omega
     subst e
     exact absurd (h.1.symm.trans h.2.1) (by decide)
   exact .inr ⟨_, acc_hit a hl K i 0 [] h0 h2 h.1 h.2.1 h.2.2, accG_len a i⟩
  ·rw [acc_miss a K i 0 [] hl hi h]
   exact ih K (i + 1) (by omega) (by omega)
theorem acc_S2 (a : Li) (hl : a.length ≤ 1500000) : ∃ r : Fa, S.l24Access (str a) = some r ∧ r.2.length ≤ a.length + 1 := by
 unfold S.l24Access
 rcases acc1_loop a hl a.length FUEL 0 (by omega) (by rw [FUEL_eq]; omega) with e | ⟨r, e, h⟩
 ·have e' : S.l24Access_l1 (str a) FUEL 0 [] 0 = some (.inl (0, [])) := e
  rw [e', Option.bind_some]; exact ⟨_, rfl, by simp⟩
 ·have e' : S.l24Access_l1 (str a) FUEL 0 [] 0 = some (.inr r) := e
  rw [e', Option.bind_some]; exact ⟨_, rfl, h⟩
theorem first_of {c : UInt8} : ∀ {a : Li}, c ∈ a → ∃ x b, a = x ++ c :: b ∧ c ∉ x
 | y :: a, h => by
  by_cases e : c = y
  ·subst e; exact ⟨[], a, rfl, by simp⟩
  ·obtain ⟨x, b, rfl, hx⟩ := first_of ((List.mem_cons.1 h).resolve_left e)
   exact ⟨y :: x, b, rfl, by simp [hx, e]⟩
theorem iB_none (c : UInt8) : ∀ a : Li, c ∉ a → Lib.indexByte a c = -1
 | [], _ => rfl
 | x :: a, h => by
  simp only [List.mem_cons, not_or] at h
  rw [Lib.indexByte, if_neg (by simpa using fun e => h.1 e.symm), iB_none c a h.2]; rfl
theorem iB_some (c : UInt8) (b : Li) : ∀ a : Li, c ∉ a → Lib.indexByte (a ++ c :: b) c = (a.length : Int)
 | [], _ => by rw [List.nil_append, Lib.indexByte, if_pos (by simp)]; rfl
 | x :: a, h => by
  simp only [List.mem_cons, not_or] at h
  rw [List.cons_append, Lib.indexByte, if_neg (by simpa using fun e => h.1 e.symm), iB_some c b a h.2, if_neg (by simp), List.length_cons]; omega
theorem cut_at (c : UInt8) (a b : Li) (h : c ∉ a) : Lib.cut (a ++ c :: b) [c] = (a, b, true) := by
 have e : Lib.index (a ++ c :: b) [c] = (a.length : Int) := by rw [Lib.index_one]; exact iB_some c b a h
 unfold Lib.cut
 rw [e, if_pos (by omega), Int.toNat_natCast, List.take_left' rfl]
 congr 2
 rw [show a ++ c :: b = (a ++ [c]) ++ b by simp]
 exact List.drop_left' (by simp)
theorem cut_le (s t : Li) : (Lib.cut s t).1.length ≤ s.length ∧ (Lib.cut s t).2.1.length ≤ s.length := by
 unfold Lib.cut
 split
 ·exact ⟨by simp; omega, by simp⟩
 ·exact ⟨Nat.le_refl _, by simp⟩
theorem split_at (c : UInt8) : ∀ (n : Nat) (a : Li), a.length ≤ n → Lib.splitK [c] 0 (Lib.count a [c]) a = cutL c [] a := by
 intro n
 induction n with
 | zero =>
  intro a h
  obtain rfl := List.length_eq_zero_iff.1 (Nat.le_zero.1 h)
  rfl
 | succ n ih =>
  intro a h
  by_cases hc : c ∈ a
  ·obtain ⟨x, b, rfl, hx⟩ := first_of hc
   have e : Lib.index (x ++ c :: b) [c] = (x.length : Int) := by rw [Lib.index_one]; exact iB_some c b x hx
   have hd : (x ++ c :: b).drop (x.length + 1) = b := by
    rw [show x ++ c :: b = (x ++ [c]) ++ b by simp]
    exact List.drop_left' (by simp)
   rw [Lib.count_hit (by simp) e, show ([c] : Li).length = 1 from rfl, hd, Nat.add_comm 1, Lib.splitK, e, if_neg (by simp), Int.toNat_natCast, Nat.add_zero, List.take_left' rfl, show ([c] : Li).length = 1 from rfl, hd, ih b (by simp at h; omega), cutL_some c b x [] hx, List.nil_append]
  ·have e : Lib.index a [c] = -1 := by rw [Lib.index_one]; exact iB_none c a hc
   rw [Lib.count_miss e, cutL_none c a [] hc]; rfl
theorem nocut {x : UInt8} {l : List Int} (hv : ∀ y ∈ l, 0 ≤ y ∧ y ≤ 9) (hx : x.toNat < 48 ∨ 57 < x.toNat) : ∀ y ∈ l, x ∉ digL y := by
 intro y hy hm
 obtain ⟨h0, h1⟩ := hv y hy
 unfold digL at hm
 obtain rfl := List.mem_singleton.1 hm
 rw [dig_toNat (by omega)] at hx
 omega
theorem dig_not {x : UInt8} {y : Int} (h0 : 0 ≤ y) (h1 : y ≤ 9) (hx : x.toNat < 48 ∨ 57 < x.toNat) : x ∉ digL y :=
 nocut (l := [y]) (by simpa using ⟨h0, h1⟩) hx y (by simp)
theorem dec_not {x : UInt8} {n : Nat} (hx : x.toNat < 48 ∨ 57 < x.toNat) : x ∉ Lib.decDigits n := fun h => by
 have := dec_all h
 omega
theorem cutJ : ∀ (r : List Int) (p a : Li), (∀ y ∈ r, 0 ≤ y ∧ y ≤ 9) → (44 : UInt8) ∉ a → cutL 44 p (a ++ Lib.joinTail [44] (r.map digL)) = (p ++ a) :: r.map digL
 | [], p, a, _, h => by
  rw [show a ++ Lib.joinTail [44] (([] : List Int).map digL) = a from List.append_nil a, cutL_none _ _ _ h]; rfl
 | x :: r, p, a, hv, h => by
  have e : Lib.joinTail [44] ((x :: r).map digL) = 44 :: (digL x ++ Lib.joinTail [44] (r.map digL)) := by simp [Lib.joinTail]
  have hx := hv x (by simp)
  rw [e, cutL_some 44 _ a p h, cutJ r [] (digL x) (fun y hy => hv y (by simp [hy])) (dig_not hx.1 hx.2 (by decide))]
  rfl
theorem join_cut {l : List Int} (hn : l ≠ []) (hv : ∀ y ∈ l, 0 ≤ y ∧ y ≤ 9) : cutL 44 [] (Lib.join (l.map digL) [44]) = l.map digL := by
 cases l with
 | nil => exact absurd rfl hn
 | cons x r =>
  have hx := hv x (by simp)
  rw [List.map_cons, Lib.join_cons, cutJ r [] (digL x) (fun y hy => hv y (by simp [hy])) (dig_not hx.1 hx.2 (by decide))]; rfl
theorem join_not {x : UInt8} {l : List Int} (hv : ∀ y ∈ l, 0 ≤ y ∧ y ≤ 9) (hx : x.toNat < 48 ∨ 57 < x.toNat) (h44 : x ≠ 44) : x ∉ Lib.join (l.map digL) [44] := by
 cases l with
 | nil => simp [Lib.join_nil]
 | cons y r =>
  rw [List.map_cons, Lib.join_cons]
  intro h
  rcases List.mem_append.1 h with h | h
  ·exact nocut hv hx y (by simp) h
  ·unfold Lib.joinTail at h
   obtain ⟨z, hz, hm⟩ := List.mem_flatten.1 h
   obtain ⟨u, hu, rfl⟩ := List.mem_map.1 hz
   obtain ⟨v, hv', rfl⟩ := List.mem_map.1 hu
   rcases List.mem_append.1 hm with h | h
   ·exact h44 (List.mem_singleton.1 h)
   ·exact nocut hv hx v (by simp [hv']) h
theorem join_ne {l : List Int} (hn : l ≠ []) : Lib.join (l.map digL) [44] ≠ [] := by
 cases l with
 | nil => exact absurd rfl hn
 | cons y r =>
  rw [List.map_cons, Lib.join_cons]
  unfold digL; simp
def inn (f : Fa) : Li := Lib.join (f.2.map digL) [44]
theorem accT_eq {f : Fa} (h : okA f = true) : accT f = 109 :: (digL f.1 ++ 40 :: (inn f ++ [41])) := by
 unfold accT inn; rw [if_pos h]; simp
theorem okA_iff {f : Fa} (h : okA f = true) : (0 ≤ f.1 ∧ f.1 ≤ 4) ∧ f.2.length ≤ 3 ∧ ∀ y ∈ f.2, 0 ≤ y ∧ y ≤ 9 := by
 have h3 := okA_len h
 unfold okA at h
 simp only [Bool.and_eq_true, inR_iff] at h
 exact ⟨h.1, h3, all_in h.2.2⟩
def numM (a : Li) : Int × Bool := (M.ParseInt (str a)).getD (0, false)
theorem numM_eq (a : Li) (h : a.length ≤ 2000000) : M.ParseInt (str a) = some (numM a) := by
 obtain ⟨n, e⟩ := pint_M (str a) (show a.length < 4294967281 by omega)
 unfold numM; rw [e]; rfl
theorem ints_loopM (xs : List Li) (hl : xs.length ≤ 2000000) (hs : ∀ x ∈ xs, x.length ≤ 2000000) : ∀ (n K i : Nat) (ys : List Int), i + n = xs.length → n < K → ys.length ≤ i →
  (∃ zs, M.readInts_l1 (xs.map str) K ys (i : Int) = some (.inl zs) ∧ zs.length ≤ xs.length) ∨ M.readInts_l1 (xs.map str) K ys (i : Int) = some (.inr ([], false)) := by
 intro n
 induction n with
 | zero =>
  intro K i ys h1 hK h2
  obtain ⟨K, rfl⟩ : ∃ k, K = k + 1 := ⟨K - 1, by omega⟩
  left
  exact ⟨ys, by rw [M.readInts_l1, if_neg (by simp; omega)], by omega⟩
 | succ n ih =>
  intro K i ys h1 hK h2
  obtain ⟨K, rfl⟩ : ∃ k, K = k + 1 := ⟨K - 1, by omega⟩
  have hi : i < xs.length := by omega
  have hi' : i < (xs.map str).length := by simpa using hi
  rw [M.readInts_l1, if_pos (decide_eq_true (by omega)), idx_nat _ hi', Option.bind_some, List.getElem_map, numM_eq _ (hs _ (List.getElem_mem hi)), Option.bind_some]
  cases (numM xs[i]).2
  ·right; rfl
  ·rw [if_neg (by simp), app_eq _ _ (by simp; omega), Option.bind_some, w64_succ (by omega)]
   exact ih K (i + 1) _ (by omega) (by omega) (by simp; omega)
theorem readInts_M (xs : List Li) (hl : xs.length ≤ 2000000) (hs : ∀ x ∈ xs, x.length ≤ 2000000) : ∃ r : List Int × Bool, M.readInts (xs.map str) = some r ∧ r.1.length ≤ xs.length := by
 unfold M.readInts
 rcases ints_loopM xs hl hs xs.length FUEL 0 [] (by omega) (by rw [FUEL_eq]; omega) (by simp) with ⟨zs, e, h⟩ | e
 ·have e' : M.readInts_l1 (xs.map str) FUEL [] 0 = some (.inl zs) := e
  rw [e', Option.bind_some]; exact ⟨_, rfl, h⟩
 ·have e' : M.readInts_l1 (xs.map str) FUEL [] 0 = some (.inr ([], false)) := e
  rw [e', Option.bind_some]; exact ⟨_, rfl, by simp⟩
theorem digL_nat {y : Int} (h0 : 0 ≤ y) (h1 : y ≤ 9) : digL y = Lib.decDigits y.toNat := by
 obtain ⟨n, rfl⟩ : ∃ n : Nat, y = n := ⟨y.toNat, by omega⟩
 exact digL_dec n (by omega)
theorem numM_dig {y : Int} (h0 : 0 ≤ y) (h1 : y ≤ 9) : M.ParseInt (str (digL y)) = some (y, true) := by
 rw [digL_nat h0 h1, pint_Md _ (by omega), Int.toNat_of_nonneg h0]
theorem numS_dig {y : Int} (h0 : 0 ≤ y) (h1 : y ≤ 9) : numG (digL y) = y := by
 have e := numG_eq (digL y)
 rw [digL_nat h0 h1, num_Sd _ (by omega), Int.toNat_of_nonneg h0] at e
 rw [digL_nat h0 h1]
 exact (Option.some.inj e).symm
theorem ints_loopD (xs : List Int) (hl : xs.length ≤ 2000000) (hv : ∀ y ∈ xs, 0 ≤ y ∧ y ≤ 9) : ∀ (n K i : Nat) (ys : List Int), i + n = xs.length → n < K → ys.length ≤ i →
  M.readInts_l1 ((xs.map digL).map str) K ys (i : Int) = some (.inl (ys ++ xs.drop i)) := by
 intro n
 induction n with
 | zero =>
  intro K i ys h1 hK h2
  obtain ⟨K, rfl⟩ : ∃ k, K = k + 1 := ⟨K - 1, by omega⟩
  rw [M.readInts_l1, if_neg (by simp; omega), List.drop_of_length_le (by omega), List.append_nil]
 | succ n ih =>
  intro K i ys h1 hK h2
  obtain ⟨K, rfl⟩ : ∃ k, K = k + 1 := ⟨K - 1, by omega⟩
  have hi : i < xs.length := by omega
  have hi' : i < ((xs.map digL).map str).length := by simpa using hi
  have hx := hv _ (List.getElem_mem hi)
  rw [M.readInts_l1, if_pos (decide_eq_true (by omega)), idx_nat _ hi', Option.bind_some, List.getElem_map, List.getElem_map, numM_dig hx.1 hx.2, Option.bind_some, if_neg (by simp), app_eq _ _ (by simp; omega), Option.bind_some, w64_succ (by omega), ih K (i + 1) _ (by omega) (by omega) (by simp; omega), List.drop_eq_getElem_cons hi, List.append_assoc]
  rfl
theorem readInts_D (xs : List Int) (hl : xs.length ≤ 2000000) (hv : ∀ y ∈ xs, 0 ≤ y ∧ y ≤ 9) : M.readInts ((xs.map digL).map str) = some (xs, true) := by
 unfold M.readInts
 have e : M.readInts_l1 ((xs.map digL).map str) FUEL [] 0 = some (.inl xs) := ints_loopD xs hl hv xs.length FUEL 0 [] (by omega) (by rw [FUEL_eq]; omega) (by simp)
 rw [e, Option.bind_some]
theorem cut_Mle (a : Li) (c : UInt8) (h : a.length ≤ 2000000) : ∃ (x y : Li) (b : Bool), Strings.Cut (str a) (str [c]) = some (str x, str y, b) ∧ x.length ≤ a.length ∧ y.length ≤ a.length := by
 unfold Strings.Cut cutS
 rw [if_pos (show List.length (str a) < 4294967281 by have := slen a; omega)]
 have := cut_le a [c]
 exact ⟨_, _, _, rfl, this.1, this.2⟩
theorem cut_Mat (c : UInt8) (a b : Li) (h : c ∉ a) (hl : (a ++ c :: b).length ≤ 2000000) : Strings.Cut (str (a ++ c :: b)) (str [c]) = some (str a, str b, true) := by
 unfold Strings.Cut cutS
 rw [if_pos (show List.length (str (a ++ c :: b)) < 4294967281 by have := slen (a ++ c :: b); omega)]
 exact congrArg some (cut_at c a b h)
theorem trimp_le (s t : Li) : ∃ x : Li, Strings.TrimPrefix (str s) (str t) = some (str x) ∧ x.length ≤ s.length := by
 refine ⟨Lib.trimPrefix s t, rfl, ?_⟩
 unfold Lib.trimPrefix; split <;> simp
theorem trimx_le (s t : Li) (h : s.length ≤ 2000000) : ∃ x : Li, Strings.TrimSuffix (str s) (str t) = some (str x) ∧ x.length ≤ s.length := by
 unfold Strings.TrimSuffix trimSuffixS
 rw [if_pos (show List.length (str s) < 4294967281 by have := slen s; omega)]
 refine ⟨Lib.trimSuffix s t, rfl, ?_⟩
 unfold Lib.trimSuffix; split <;> simp
theorem suffix_M (s t : Li) (h : s.length ≤ 2000000) : Strings.HasSuffix (str s) (str t) = some (Lib.hasSuffix s t) := by
 unfold Strings.HasSuffix hasSuffixS
 rw [if_pos (show List.length (str s) < 4294967281 by have := slen s; omega)]; rfl
theorem split_M (s : Li) (c : UInt8) (h : s.length ≤ 2000000) : Strings.Split (str s) (str [c]) = some ((cutL c [] s).map str) := by
 unfold Strings.Split splitS
 rw [if_pos ⟨show List.length (str s) < 4294967281 by have := slen s; omega, show 1 ≤ List.length (str [c]) by have := slen [c]; simp at this; omega⟩]
 have e := split_at c s.length s (Nat.le_refl _)
 rw [← e]
 congr 1
 exact (List.map_id _).symm
theorem readCall_M (a : Li) (h : a.length ≤ 1500000) : ∃ (n : Int) (ws : List Li) (b : Bool), M.readCall (str [109]) (str a) = some (n, ws.map str, b) ∧ ws.length ≤ 2000000 ∧ ∀ x ∈ ws, x.length ≤ 2000000 := by
 obtain ⟨x, y, b, e1, hx, hy⟩ := cut_Mle a 40 (by omega)
 obtain ⟨p, e2, hp⟩ := trimp_le x [109]
 unfold M.readCall
 rw [e1, Option.bind_some]
 dsimp only
 rw [e2, Option.bind_some, numM_eq p (by omega), Option.bind_some]
 cases b
 ·exact ⟨0, [], false, rfl, by simp, by simp⟩
 ·cases hn : (numM p).2
  ·exact ⟨0, [], false, rfl, by simp, by simp⟩
  ·rw [if_neg (by simp), if_neg (by simp), suffix_M y [41] (by omega), Option.bind_some, Option.bind_some]
   cases Lib.hasSuffix y [41]
   ·exact ⟨0, [], false, rfl, by simp, by simp⟩
   ·obtain ⟨z, e3, hz⟩ := trimx_le y [41] (by omega)
    rw [if_neg (by simp), e3, Option.bind_some]
    split
    ·exact ⟨_, [], true, rfl, by simp, by simp⟩
    ·rw [split_M z 44 (by omega), Option.bind_some]
     have h1 := cutL_len 44 z []
     exact ⟨_, _, true, rfl, by omega, fun w hw => by have := cutL_part 44 z [] w hw; simp at this; omega⟩
theorem readAccess_M (a : Li) (h : a.length ≤ 1500000) : ∃ (f : Fa) (b : Bool), M.readAccess (str a) = some (f, b) ∧ f.2.length ≤ 4294967296 := by
 obtain ⟨n, ws, b, e1, h1, h2⟩ := readCall_M a h
 obtain ⟨r, e2, h3⟩ := readInts_M ws h1 h2
 unfold M.readAccess
 rw [e1, Option.bind_some]
 dsimp only
 rw [e2, Option.bind_some]
 cases b
 ·exact ⟨(n, r.1), false, rfl, by show r.1.length ≤ _; omega⟩
 ·cases hr : r.2
  ·exact ⟨(n, r.1), false, rfl, by show r.1.length ≤ _; omega⟩
  ·rw [if_pos rfl, if_pos rfl, acc_M (n, r.1) (by show r.1.length ≤ _; omega)]
   exact ⟨(n, r.1), _, rfl, by show r.1.length ≤ _; omega⟩
theorem readAccess_D (f : Fa) (h : okA f = true) : M.readAccess (str (accT f)) = some (f, true) := by
 obtain ⟨h1, h2, h3⟩ := okA_iff h
 have hl := accT_len f
 have hj : (inn f).length ≤ 6 := by have := join_len f.2 [44] rfl; unfold inn; omega
 have e0 := accT_eq h
 have c1 : (40 : UInt8) ∉ 109 :: digL f.1 := by
  intro hm
  rcases List.mem_cons.1 hm with hm | hm
  ·exact absurd hm (by decide)
  ·exact dig_not h1.1 (by omega) (by decide) hm
 have e1 : Strings.Cut (str (accT f)) (str [40]) = some (str (109 :: digL f.1), str (inn f ++ [41]), true) := by
  have := cut_Mat 40 (109 :: digL f.1) (inn f ++ [41]) c1 (by have := accT_len f; rw [e0] at this; simp at this ⊢; omega)
  rw [e0]; exact this
 have e2 : Strings.TrimPrefix (str (109 :: digL f.1)) (str [109]) = some (str (digL f.1)) := by
  show some (Lib.trimPrefix (109 :: digL f.1) [109]) = some (digL f.1)
  unfold Lib.trimPrefix
  rw [if_pos (by simp [Lib.hasPrefix, List.isPrefixOf])]; rfl
 have e3 : Strings.HasSuffix (str (inn f ++ [41])) (str [41]) = some true := by
  rw [suffix_M _ _ (by simp; omega)]
  congr 1
  unfold Lib.hasSuffix
  rw [List.isSuffixOf_iff_suffix]
  exact ⟨inn f, rfl⟩
 have e4 : Strings.TrimSuffix (str (inn f ++ [41])) (str [41]) = some (str (inn f)) := by
  unfold Strings.TrimSuffix trimSuffixS
  rw [if_pos (show List.length (str (inn f ++ [41])) < 4294967281 by have := slen (inn f ++ [41]); simp at this; omega)]
  show some (Lib.trimSuffix (inn f ++ [41]) [41]) = some (inn f)
  unfold Lib.trimSuffix
  rw [if_pos (by unfold Lib.hasSuffix; rw [List.isSuffixOf_iff_suffix]; exact ⟨inn f, rfl⟩)]
  congr 1
  exact List.take_left' (by simp)
 have e5 : M.readCall (str [109]) (str (accT f)) = some (f.1, (f.2.map digL).map str, true) := by
  unfold M.readCall
  rw [e1, Option.bind_some]
  dsimp only
  rw [e2, Option.bind_some, numM_dig h1.1 (by omega), Option.bind_some, if_neg (by simp), if_neg (by simp), e3, Option.bind_some, Option.bind_some, if_neg (by simp), e4, Option.bind_some]
  by_cases hn : f.2 = []
  ·have : inn f = [] := by unfold inn; rw [hn]; rfl
   rw [this, if_pos (by decide), hn]; rfl
  ·have hi : inn f ≠ [] := join_ne hn
   rw [if_neg (show ¬ decide (str (inn f) = str []) = true from fun e => hi (of_decide_eq_true e)), split_M _ _ (by omega), Option.bind_some]
   rw [show cutL 44 [] (inn f) = f.2.map digL from join_cut hn h3]
 unfold M.readAccess
 rw [e5, Option.bind_some]
 dsimp only
 rw [readInts_D f.2 (by omega) h3, Option.bind_some, if_pos rfl, if_pos rfl, acc_M f (by omega)]
 simp
theorem access_Sd (f : Fa) (h : okA f = true) : S.l24Access (str (accT f)) = some f := by
 obtain ⟨h1, h2, h3⟩ := okA_iff h
 have hl := accT_len f
 have e0 := accT_eq h
 have hd : digL f.1 = [UInt8.ofNat (48 + f.1.toNat)] := rfl
 have e1 : accT f = [109, UInt8.ofNat (48 + f.1.toNat), 40] ++ (inn f ++ [41]) := by rw [e0, hd]; simp
 have hlen : (accT f).length = (inn f).length + 4 := by rw [e1]; simp
 have g0 : (accT f)[0]'(by omega) = 109 := by simp [e1]
 have g1 : (accT f)[1]'(by omega) = UInt8.ofNat (48 + f.1.toNat) := by simp [e1]
 have g2 : (accT f)[2]'(by omega) = 40 := by simp [e1]
 have g3 : (accT f)[(accT f).length - 1]'(by omega) = 41 := by
  have : (accT f).length - 1 = 3 + (inn f).length := by omega
  simp only [this, e1]
  rw [List.getElem_append_right (by simp), List.getElem_append_right (by simp)]
  simp
 have n1 : ¬ UInt8.ofNat (48 + f.1.toNat) = 40 := fun e => by
  have := congrArg UInt8.toNat e
  rw [dig_toNat (by omega)] at this
  have h40 : (40 : UInt8).toNat = 40 := rfl
  omega
 have t1 : ((accT f).take 2).drop 1 = digL f.1 := by rw [e1, hd]; rfl
 have t2 : ((accT f).take ((accT f).length - 1)).drop (2 + 1) = inn f := by
  have : (accT f).length - 1 = 3 + (inn f).length := by omega
  rw [this, e1, show 3 + (inn f).length = ([109, UInt8.ofNat (48 + f.1.toNat), 40] ++ inn f).length by simp; omega, ← List.append_assoc, List.take_left' rfl]
  exact List.drop_left' rfl
 obtain ⟨K, hK⟩ : ∃ K, FUEL = K + 3 := ⟨4611686018427387901, FUEL_eq⟩
 have eL : S.l24Access_l1 (str (accT f)) FUEL 0 [] 0 = some (.inr (accG (accT f) 2)) := by
  have s0 := acc_miss (accT f) (K + 2) 0 0 [] (by omega) (by omega) (fun e => absurd (g0.symm.trans e.1) (by decide))
  have s1 := acc_miss (accT f) (K + 1) 1 0 [] (by omega) (by omega) (fun e => n1 (g1.symm.trans e.1))
  have s2 := acc_hit (accT f) (by omega) K 2 0 [] (by omega) (by omega) g2 g3 g0
  rw [hK]
  exact s0.trans (s1.trans s2)
 unfold S.l24Access
 rw [eL, Option.bind_some]
 dsimp only
 unfold accG
 rw [t1, t2, numS_dig h1.1 (by omega)]
 by_cases hn : f.2 = []
 ·have : inn f = [] := by unfold inn; rw [hn]; rfl
  rw [if_pos this, ← hn]
 ·have hi : inn f ≠ [] := join_ne hn
  rw [if_neg hi, show cutL 44 [] (inn f) = f.2.map digL from join_cut hn h3, List.map_map]
  have : f.2.map (numG ∘ digL) = f.2 := by
   conv => rhs; rw [← List.map_id f.2]
   exact List.map_congr_left fun y hy => numS_dig (h3 y hy).1 (h3 y hy).2
  rw [this]
theorem curT_ne {c : Cu} (h : curT c ≠ []) : (okA c.1 = true ∧ (0 ≤ c.2.1 ∧ c.2.1 ≤ 1000) ∧ (0 ≤ c.2.2 ∧ c.2.2 ≤ 1000)) ∧ curT c = accT c.1 ++ 43 :: (Lib.decDigits c.2.1.toNat ++ 64 :: Lib.decDigits c.2.2.toNat) := by
 unfold curT at h ⊢
 split at h
 ·rename_i hc
  rw [if_pos hc]
  simp only [Bool.and_eq_true, inR_iff] at hc
  exact ⟨⟨hc.1, hc.2.1, hc.2.2⟩, by simp⟩
 ·exact absurd rfl h
theorem accT_not {f : Fa} (h : okA f = true) {x : UInt8} (hx : x = 43 ∨ x = 64) : x ∉ accT f := by
 obtain ⟨h1, h2, h3⟩ := okA_iff h
 rw [accT_eq h]
 intro hm
 have hr : x.toNat < 48 ∨ 57 < x.toNat := by rcases hx with rfl | rfl <;> decide
 rcases List.mem_cons.1 hm with hm | hm
 ·rcases hx with rfl | rfl <;> exact absurd hm (by decide)
 rcases List.mem_append.1 hm with hm | hm
 ·exact dig_not h1.1 (by omega) hr hm
 rcases List.mem_cons.1 hm with hm | hm
 ·rcases hx with rfl | rfl <;> exact absurd hm (by decide)
 rcases List.mem_append.1 hm with hm | hm
 ·exact join_not h3 hr (by rcases hx with rfl | rfl <;> decide) hm
 ·rcases hx with rfl | rfl <;> exact absurd hm (by decide)
abbrev Cz : Cu × Bool := (((0, []), 0, 0), false)
theorem readAccess_nil : ∃ f : Fa, M.readAccess (str []) = some (f, false) := by
 have e1 : Strings.Cut (str []) (str [40]) = some (str [], str [], false) := rfl
 have e2 : Strings.TrimPrefix (str []) (str [109]) = some (str []) := rfl
 have e3 : M.readCall (str [109]) (str []) = some (0, [], false) := by
  unfold M.readCall
  rw [e1, Option.bind_some]
  dsimp only
  rw [e2, Option.bind_some, numM_eq [] (by simp), Option.bind_some]; rfl
 obtain ⟨r, e4, _⟩ := readInts_M [] (by simp) (by simp)
 have e4' : M.readInts [] = some r := e4
 unfold M.readAccess
 rw [e3, Option.bind_some]
 dsimp only
 rw [e4', Option.bind_some]
 exact ⟨_, rfl⟩
theorem str_ne {x y : Li} (h : ¬ x = y) : (!decide (str x = str y)) = true := by
 rw [decide_eq_false (show ¬ str x = str y from h)]; rfl
theorem parse_M (a : Li) (h : a.length ≤ 1500000) : M.ParseCursor (str a) = some Cz ∨ ∃ c : Cu, M.ParseCursor (str a) = some (c, true) ∧ curT c = a ∧ a ≠ [] := by
 by_cases ha : a = []
 ·subst ha
  left
  obtain ⟨f, e3⟩ := readAccess_nil
  have e1 : Strings.Cut (str []) (str [43]) = some (str [], str [], false) := rfl
  have e2 : Strings.Cut (str []) (str [64]) = some (str [], str [], false) := rfl
  unfold M.ParseCursor
  rw [e1, Option.bind_some]
  dsimp only
  rw [e2, Option.bind_some]
  dsimp only
  rw [e3, Option.bind_some, numM_eq [] (by simp), Option.bind_some]; rfl
 obtain ⟨x, y, b, e1, hx, hy⟩ := cut_Mle a 43 (by omega)
 obtain ⟨u, v, b2, e2, hu, hv⟩ := cut_Mle y 64 (by omega)
 obtain ⟨f, b3, e3, hf⟩ := readAccess_M x (by omega)
 unfold M.ParseCursor
 rw [e1, Option.bind_some]
 dsimp only
 rw [e2, Option.bind_some]
 dsimp only
 rw [e3, Option.bind_some, numM_eq u (by omega), Option.bind_some, numM_eq v (by omega), Option.bind_some]
 cases b3
 ·exact .inl rfl
 ·cases h4 : (numM u).2
  ·exact .inl rfl
  ·cases h5 : (numM v).2
   ·exact .inl rfl
   ·rw [if_neg (by simp), if_neg (by simp), if_neg (by simp), cur_M (f, (numM u).1, (numM v).1) hf, Option.bind_some, Option.bind_some]
    by_cases hc : curT (f, (numM u).1, (numM v).1) = a
    ·right
     refine ⟨(f, (numM u).1, (numM v).1), ?_, hc, ha⟩
     rw [if_neg (show ¬ (!decide (str (curT (f, (numM u).1, (numM v).1)) = str a)) = true by rw [hc]; simp)]
    ·left
     rw [if_pos (str_ne hc)]
theorem parse_S (a : Li) (h : a.length ≤ 1500000) : S.ParseCursor (str a) = some Cz ∨ ∃ c : Cu, S.ParseCursor (str a) = some (c, true) ∧ curT c = a ∧ a ≠ [] := by
 unfold S.ParseCursor
 rw [cut_S a 43 43 rfl (by omega), Option.bind_some]
 by_cases h2 : ((((cutL 43 [] a).map str).length : Nat) : Int) = 2
 ·rw [if_neg (by rw [h2]; simp)]
  have hl2 : (cutL 43 [] a).length = 2 := by rw [List.length_map] at h2; omega
  have ha : a ≠ [] := by rintro rfl; simp [cutL] at hl2
  obtain ⟨p, q, hpq⟩ : ∃ p q, cutL 43 [] a = [p, q] := by
   match hm : cutL 43 [] a, hl2 with
   | [p, q], _ => exact ⟨p, q, rfl⟩
  have hp := cutL_part 43 a [] p (by rw [hpq]; simp)
  have hq := cutL_part 43 a [] q (by rw [hpq]; simp)
  simp only [List.length_nil, Nat.zero_add] at hp hq
  rw [hpq]
  rw [show idx ([p, q].map str) 1 = some (str q) from rfl, Option.bind_some, cut_S q 64 64 rfl (by omega), Option.bind_some]
  by_cases h3 : ((((cutL 64 [] q).map str).length : Nat) : Int) = 2
  ·rw [if_neg (by rw [h3]; simp)]
   have hl3 : (cutL 64 [] q).length = 2 := by rw [List.length_map] at h3; omega
   obtain ⟨u, v, huv⟩ : ∃ u v, cutL 64 [] q = [u, v] := by
    match hm : cutL 64 [] q, hl3 with
    | [u, v], _ => exact ⟨u, v, rfl⟩
   obtain ⟨r, er, hr⟩ := acc_S2 p (by omega)
   rw [huv, show idx ([p, q].map str) 0 = some (str p) from rfl, show idx ([u, v].map str) 0 = some (str u) from rfl, show idx ([u, v].map str) 1 = some (str v) from rfl, Option.bind_some, Option.bind_some, Option.bind_some, er, Option.bind_some, numG_eq, Option.bind_some, numG_eq, Option.bind_some, Option.bind_some]
   dsimp only
   rw [show ((r.1, r.2), numG u, numG v) = (r, numG u, numG v) from rfl, cur_S (r, numG u, numG v) (by show r.2.length ≤ _; omega), Option.bind_some]
   by_cases hc : curT (r, numG u, numG v) = a
   ·right
    refine ⟨(r, numG u, numG v), ?_, hc, ha⟩
    rw [if_neg (show ¬ (!decide (str (curT (r, numG u, numG v)) = str a)) = true by rw [hc]; simp)]
   ·left
    rw [if_pos (str_ne hc)]
  ·left
   rw [if_pos (by simpa using h3)]
 ·left
  rw [if_pos (by simpa using h2)]
theorem cur_round (c : Cu) (h : curT c ≠ []) : M.ParseCursor (str (curT c)) = some (c, true) ∧ S.ParseCursor (str (curT c)) = some (c, true) := by
 obtain ⟨⟨h1, h2, h3⟩, e⟩ := curT_ne h
 have hl := curT_len c
 have hl1 := accT_len c.1
 have hf := okA_len h1
 obtain ⟨f, o, v⟩ := c
 obtain ⟨m, rfl⟩ : ∃ m : Nat, o = m := ⟨o.toNat, by dsimp only at h2; omega⟩
 obtain ⟨n, rfl⟩ : ∃ n : Nat, v = n := ⟨v.toNat, by dsimp only at h3; omega⟩
 dsimp only at h1 h2 h3 e hl1 hf
 rw [Int.toNat_natCast, Int.toNat_natCast] at e
 have n1 : (43 : UInt8) ∉ accT f := accT_not h1 (.inl rfl)
 have n2 : (43 : UInt8) ∉ Lib.decDigits m ++ 64 :: Lib.decDigits n := by
  intro hm
  rcases List.mem_append.1 hm with hm | hm
  ·exact dec_not (by decide) hm
  ·rcases List.mem_cons.1 hm with hm | hm
   ·exact absurd hm (by decide)
   ·exact dec_not (by decide) hm
 have n3 : (64 : UInt8) ∉ Lib.decDigits m := dec_not (by decide)
 have n4 : (64 : UInt8) ∉ Lib.decDigits n := dec_not (by decide)
 have hlm : (Lib.decDigits m ++ 64 :: Lib.decDigits n).length ≤ 1000 := by
  have := hl; rw [e] at this; simp only [List.length_append, List.length_cons] at this ⊢; omega
 have hcm := cur_M (f, (m : Int), (n : Int)) (by show f.2.length ≤ _; omega)
 have hcs := cur_S (f, (m : Int), (n : Int)) (by show f.2.length ≤ _; omega)
 constructor
 ·have e1 : Strings.Cut (str (curT (f, (m : Int), (n : Int)))) (str [43]) = some (str (accT f), str (Lib.decDigits m ++ 64 :: Lib.decDigits n), true) := by
   rw [e]; exact cut_Mat 43 _ _ n1 (by rw [← e]; omega)
  have e2 : Strings.Cut (str (Lib.decDigits m ++ 64 :: Lib.decDigits n)) (str [64]) = some (str (Lib.decDigits m), str (Lib.decDigits n), true) := cut_Mat 64 _ _ n3 (by omega)
  unfold M.ParseCursor
  rw [e1, Option.bind_some]
  dsimp only
  rw [e2, Option.bind_some]
  dsimp only
  rw [readAccess_D f h1, Option.bind_some, pint_Md m (by omega), Option.bind_some, pint_Md n (by omega), Option.bind_some, if_neg (by simp), if_neg (by simp), if_neg (by simp)]
  dsimp only
  rw [hcm, Option.bind_some, Option.bind_some, if_neg (by simp)]
 ·unfold S.ParseCursor
  rw [cut_S _ 43 43 rfl (by omega), Option.bind_some]
  rw [show cutL 43 [] (curT (f, (m : Int), (n : Int))) = [accT f, Lib.decDigits m ++ 64 :: Lib.decDigits n] by rw [e, cutL_some 43 _ _ [] n1, cutL_none 43 _ [] n2]; rfl]
  rw [if_neg (by simp), show idx ([accT f, Lib.decDigits m ++ 64 :: Lib.decDigits n].map str) 1 = some (str (Lib.decDigits m ++ 64 :: Lib.decDigits n)) from rfl, Option.bind_some, cut_S _ 64 64 rfl (by omega), Option.bind_some]
  rw [show cutL 64 [] (Lib.decDigits m ++ 64 :: Lib.decDigits n) = [Lib.decDigits m, Lib.decDigits n] by rw [cutL_some 64 _ _ [] n3, cutL_none 64 _ [] n4]; rfl]
  rw [if_neg (by simp), show idx ([accT f, Lib.decDigits m ++ 64 :: Lib.decDigits n].map str) 0 = some (str (accT f)) from rfl, show idx ([Lib.decDigits m, Lib.decDigits n].map str) 0 = some (str (Lib.decDigits m)) from rfl, show idx ([Lib.decDigits m, Lib.decDigits n].map str) 1 = some (str (Lib.decDigits n)) from rfl, Option.bind_some, Option.bind_some, Option.bind_some, access_Sd f h1, Option.bind_some, num_Sd m (by omega), Option.bind_some, num_Sd n (by omega), Option.bind_some, Option.bind_some]
  dsimp only
  rw [show ((f.1, f.2), (m : Int), (n : Int)) = (f, (m : Int), (n : Int)) from rfl, hcs, Option.bind_some, if_neg (by simp)]
theorem parse_same (a : Li) (h : a.length ≤ 1500000) : ∃ r : Cu × Bool, S.ParseCursor (str a) = some r ∧ M.ParseCursor (str a) = some r ∧ (r = Cz ∨ r.2 = true ∧ curT r.1 = a ∧ a ≠ []) := by
 rcases parse_M a h with e | ⟨c, e, hc, ha⟩
 ·rcases parse_S a h with e2 | ⟨c, e2, hc, ha⟩
  ·exact ⟨_, e2, e, .inl rfl⟩
  ·subst hc
   rw [(cur_round c ha).1] at e
   exact absurd (congrArg Prod.snd (Option.some.inj e)) (by simp)
 ·subst hc
  exact ⟨_, (cur_round c ha).2, e, .inr ⟨rfl, rfl, ha⟩⟩
def pgsL (n : Nat) : Nat → List Fa → List (List Fa)
 | 0, _ => []
 | k + 1, l => if l.length ≤ n then [l] else l.take n :: pgsL n k (l.drop n)
theorem pgs_loop (a : List Fa) (n : Nat) (h : SZ.sm a) (h1 : 1 ≤ n) (h9 : n ≤ 9) : ∀ (k : Nat) (out : List (List Fa)) (o : Nat), o ≤ a.length → a.length - o < k → out.length + (a.length - o) ≤ 1048576 ∧ out.length + 1 ≤ 1048576 →
  S.PagesOf_l1 a (n : Int) k out (o : Int) = some (.inr (out ++ pgsL n k (a.drop o))) ∧ M.PagesOf_l1 a (n : Int) k out (o : Int) = some (.inr (out ++ pgsL n k (a.drop o)))
 | 0, out, o, _, h2, _ => by omega
 | k + 1, out, o, h0, h2, h3 => by
  have hl := h.1
  rw [S.PagesOf_l1, M.PagesOf_l1, (PageAt_eq a o n h).1, (PageAt_eq a o n h).2]
  have hin : inR (o : Int) 0 (List.length a : Int) = true := inR_iff.2 (by omega)
  have hn : inR (n : Int) 1 9 = true := inR_iff.2 (by omega)
  unfold pageOf
  rw [hn, hin]
  simp only [Bool.and_self, if_true, Option.bind_some, Bool.not_true, Bool.false_eq_true, if_false]
  rw [app_eq _ _ (by simp; omega), pgsL]
  simp only [Option.bind_some]
  rw [List.length_drop]
  by_cases he : a.length - o ≤ n
  ·have e : pageEnd a o n = (List.length a : Int) := by unfold pageEnd; split <;> omega
   rw [if_pos he, e, if_pos (by simp), if_pos (by simp), Int.toNat_natCast, Int.toNat_natCast, List.take_length]
   exact ⟨rfl, rfl⟩
  ·have e : pageEnd a o n = ((o + n : Nat) : Int) := by unfold pageEnd; split <;> omega
   have e2 : (a.take (o + n)).drop o = (a.drop o).take n := by rw [List.drop_take, show o + n - o = n by omega]
   rw [if_neg he, e, if_neg (by simp; omega), if_neg (by simp; omega), Int.toNat_natCast, Int.toNat_natCast, e2]
   have ih := pgs_loop a n h h1 h9 k (out ++ [(a.drop o).take n]) (o + n) (by omega) (by omega) (by simp; omega)
   rw [ih.1, ih.2, List.append_assoc, List.drop_drop, List.singleton_append]
   exact ⟨rfl, rfl⟩
theorem pgs_spec (n : Nat) (h1 : 1 ≤ n) : ∀ (k : Nat) (l : List Fa), l.length < k → (pgsL n k l).flatten = l ∧ (pgsL n k l).length = max 1 ((l.length + n - 1) / n) ∧ (∀ i (hi : i < (pgsL n k l).length), ((pgsL n k l)[i]).length ≤ n ∧ (i + 1 < (pgsL n k l).length → ((pgsL n k l)[i]).length = n))
 | 0, l, h => by omega
 | k + 1, l, h => by
  rw [pgsL]
  by_cases he : l.length ≤ n
  ·rw [if_pos he]
   refine ⟨by simp, ?_, fun i hi => ?_⟩
   ·have : (l.length + n - 1) / n ≤ 1 := by
     rw [Nat.div_le_iff_le_mul_add_pred (by omega)]; omega
    simp; omega
   ·simp only [List.length_singleton] at hi
    obtain rfl : i = 0 := by omega
    exact ⟨he, fun h => by simp at h⟩
  ·rw [if_neg he]
   obtain ⟨g1, g2, g3⟩ := pgs_spec n h1 k (l.drop n) (by rw [List.length_drop]; omega)
   refine ⟨by rw [List.flatten_cons, g1, List.take_append_drop], ?_, fun i hi => ?_⟩
   ·rw [List.length_cons, g2, List.length_drop]
    have e : (l.length + n - 1) / n = (l.length - n + n - 1) / n + 1 := by
     rw [show l.length + n - 1 = (l.length - n + n - 1) + n by omega, Nat.add_div_right _ (by omega)]
    have e2 : 1 ≤ (l.length - n + n - 1) / n := by
     rw [Nat.le_div_iff_mul_le (by omega)]; omega
    omega
   ·cases i with
    | zero =>
     have : (l.take n).length = n := by rw [List.length_take]; omega
     exact ⟨by show (l.take n).length ≤ n; omega, fun _ => this⟩
    | succ i =>
     simp only [List.length_cons] at hi
     have := g3 i (by omega)
     exact ⟨this.1, fun h => this.2 (by simp only [List.length_cons] at h; omega)⟩
theorem join_M (a : List (List Fa)) (z : SZ.sz a ≤ 1048576) : M.JoinPages a = some a.flatten := by
 unfold M.JoinPages
 rw [Join_loop (M.JoinPages_l1 a) a z (fun k x => by rw [M.JoinPages_l1, if_neg (by simp)]) (fun k x i hi hm => by
  rw [M.JoinPages_l1, if_pos (by simpa using hi), idx_nat a hi, Option.bind_some, copyFacts_id _ hm, Option.bind_some])]; rfl
theorem szs_flat2 {α : Type} [SZ α] : ∀ a : List (List α), szs a = SZ.sz a.flatten
 | [] => rfl
 | x :: a => by rw [List.flatten_cons, sz_append, szs_cons, szs_flat2 a]
theorem szs_small : ∀ l : List Fa, (∀ f ∈ l, f.2.length ≤ 3) → szs l ≤ l.length * 3
 | [], _ => Nat.zero_le _
 | f :: l, h => by
  have h1 := szs_small l fun g hg => h g (by simp [hg])
  have h2 := h f (by simp)
  have h3 : SZ.sz f = SZ.sz f.1 + SZ.sz f.2 := rfl
  have h4 : SZ.sz f.2 = f.2.length := sz_flat (fun _ => rfl) _
  have h5 : SZ.sz f.1 = 0 := rfl
  rw [szs_cons, List.length_cons, Nat.add_mul]; omega
theorem nz_nat (n : Nat) (h : 1 ≤ n) : nz (n : Int) = some () := by unfold nz; rw [if_neg (by omega)]
theorem ceil_eq (m n : Nat) (hm : m ≤ 1000000) (h1 : 1 ≤ n) (h9 : n ≤ 9) : w64 ((w64 (w64 ((m : Int) + (n : Int)) - 1)).tdiv (n : Int)) = (((m + n - 1) / n : Nat) : Int) := by
 have hd : (m + n - 1) / n ≤ m + n - 1 := Nat.div_le_self _ _
 have e : ((m + n - 1 : Nat) : Int).tdiv (n : Int) = (((m + n - 1) / n : Nat) : Int) := by
  rw [Int.tdiv_eq_ediv_of_nonneg (Int.natCast_nonneg _)]; exact (Int.natCast_ediv _ _).symm
 rw [w64_sm (n := (m : Int) + n) (by omega) (by omega), w64_sm (n := (m : Int) + n - 1) (by omega) (by omega), show (m : Int) + n - 1 = ((m + n - 1 : Nat) : Int) by omega, e]
 generalize (m + n - 1) / n = d at hd ⊢
 rw [w64_sm (by omega) (by omega)]
theorem count_M (m n : Nat) (hm : m ≤ 1000000) (h1 : 1 ≤ n) (h9 : n ≤ 9) : M.CountPages (m : Int) (n : Int) = some ((max 1 ((m + n - 1) / n) : Nat) : Int) := by
 unfold M.CountPages M.isPage
 rw [inM, show inR (n : Int) 1 9 = true from inR_iff.2 (by omega)]
 simp only [Option.bind_some, Bool.not_true, Bool.false_eq_true, if_false]
 rw [inM, show inR (m : Int) 0 1000000 = true from inR_iff.2 (by omega)]
 simp only [Option.bind_some, Bool.not_true, Bool.false_eq_true, if_false]
 rw [nz_nat n h1, ceil_eq m n hm h1 h9]
 simp only [Option.bind_some]
 congr 1
 split <;> omega
theorem count_same (b c : Int) : ∃ r, M.CountPages b c = some r ∧ S.CountPages b c = some r := by
 by_cases hc : inR c 1 9 = true
 ·by_cases hb : inR b 0 1000000 = true
  ·rw [inR_iff] at hb hc
   obtain ⟨m, rfl⟩ : ∃ m : Nat, b = m := ⟨b.toNat, by omega⟩
   obtain ⟨n, rfl⟩ : ∃ n : Nat, c = n := ⟨c.toNat, by omega⟩
   refine ⟨_, count_M m n (by omega) (by omega) (by omega), ?_⟩
   unfold S.CountPages
   rw [inS, show inR (n : Int) 1 9 = true from inR_iff.2 (by omega)]
   simp only [Option.bind_some, Bool.not_true, Bool.false_eq_true, if_false]
   rw [inS, show inR (m : Int) 0 1000000 = true from inR_iff.2 (by omega)]
   simp only [Option.bind_some, Bool.not_true, Bool.false_eq_true, if_false]
   by_cases h0 : m = 0
   ·subst h0
    rw [if_pos (by simp)]
    have : (0 + n - 1) / n = 0 := Nat.div_eq_of_lt (by omega)
    rw [this]; rfl
   ·rw [if_neg (by simp; omega), nz_nat n (by omega), ceil_eq m n (by omega) (by omega) (by omega)]
    have : 1 ≤ (m + n - 1) / n := by rw [Nat.le_div_iff_mul_le (by omega)]; omega
    simp only [Option.bind_some]
    congr 1; omega
  ·refine ⟨-1, ?_, ?_⟩
   ·unfold M.CountPages M.isPage
    rw [inM, hc]
    simp only [Option.bind_some, Bool.not_true, Bool.false_eq_true, if_false]
    rw [inM, Bool.eq_false_iff.2 hb]; rfl
   ·unfold S.CountPages
    rw [inS, hc]
    simp only [Option.bind_some, Bool.not_true, Bool.false_eq_true, if_false]
    rw [inS, Bool.eq_false_iff.2 hb]; rfl
 ·refine ⟨-1, ?_, ?_⟩
  ·unfold M.CountPages M.isPage
   rw [inM, Bool.eq_false_iff.2 hc]; rfl
  ·unfold S.CountPages
   rw [inS, Bool.eq_false_iff.2 hc]; rfl
theorem list24_ok (a : Code) (p s : Int) (ha : a.length ≤ 1048576) (hp : Pos a p) : ∃ (l : List Fa) (q t : Int), S.l24List (a, p, s) = some (l, (a, q, t)) ∧ l.length ≤ 10 ∧ SZ.sm l ∧ (∀ f ∈ l, f.2.length ≤ 3) ∧ Pos a q := by
 obtain ⟨sc, q1, t1, e1, hs, -, p1⟩ := schema_ok a p s ha hp
 obtain ⟨l, q2, t2, e2, hl, hm, hf, p2⟩ := facts_ok a q1 t1 sc 10 ha p1 hs ⟨by omega, by omega⟩
 unfold S.l24List
 rw [e1, Option.bind_some]
 simp only
 rw [e2, Option.bind_some]
 exact ⟨l, q2, t2, rfl, by omega, hm, hf, p2⟩
theorem drawPages_ok (a : Code) (ha : a.length ≤ 1048576) : ∃ (l : List Fa) (n : Int), S.DrawPagesOf a = some (l, n) ∧ l.length ≤ 10 ∧ SZ.sm l ∧ (∀ f ∈ l, f.2.length ≤ 3) := by
 obtain ⟨t, e0⟩ := new_ok a ha
 obtain ⟨l, q1, t1, e1, hl, hm, hf, p1⟩ := list24_ok a 0 t ha ⟨by omega, by omega⟩
 obtain ⟨v2, q2, t2, e2, -, -, p2⟩ := below_ok a q1 t1 12 ha p1 (by omega) (by omega)
 unfold S.DrawPagesOf
 rw [e0, Option.bind_some]
 simp only
 rw [e1, Option.bind_some]
 simp only
 rw [e2, Option.bind_some]
 exact ⟨l, _, rfl, hl, hm, hf⟩
theorem drawPageAt_ok (a : Code) (ha : a.length ≤ 1048576) : ∃ (l : List Fa) (o n : Int), S.DrawPageAt a = some (l, o, n) ∧ SZ.sm l := by
 obtain ⟨t, e0⟩ := new_ok a ha
 obtain ⟨l, q1, t1, e1, hl, hm, hf, p1⟩ := list24_ok a 0 t ha ⟨by omega, by omega⟩
 obtain ⟨v2, q2, t2, e2, -, -, p2⟩ := below_ok a q1 t1 12 ha p1 (by omega) (by omega)
 obtain ⟨v3, q3, t3, e3, -, -, p3⟩ := below_ok a q2 t2 12 ha p2 (by omega) (by omega)
 unfold S.DrawPageAt
 rw [e0, Option.bind_some]
 simp only
 rw [e1, Option.bind_some]
 simp only
 rw [e2, Option.bind_some]
 simp only
 rw [e3, Option.bind_some]
 exact ⟨l, _, _, rfl, hm⟩
theorem drawCount_ok (a : Code) (ha : a.length ≤ 1048576) : ∃ r : Int × Int, S.DrawCountPages a = some r := by
 obtain ⟨t, e0⟩ := new_ok a ha
 obtain ⟨v2, q2, t2, e2, -, -, p2⟩ := below_ok a 0 t 30 ha ⟨by omega, by omega⟩ (by omega) (by omega)
 obtain ⟨v3, q3, t3, e3, -, -, p3⟩ := below_ok a q2 t2 12 ha p2 (by omega) (by omega)
 unfold S.DrawCountPages
 rw [e0, Option.bind_some]
 simp only
 rw [e2, Option.bind_some]
 simp only
 rw [e3, Option.bind_some]
 exact ⟨_, rfl⟩
theorem cursor24_ok (a : Code) (p s : Int) (ha : a.length ≤ 1048576) (hp : Pos a p) : ∃ (c : Cu) (q t : Int), S.l24Cursor (a, p, s) = some (c, (a, q, t)) ∧ c.1.2.length ≤ 101 ∧ Pos a q := by
 obtain ⟨sc, l, f, q1, t1, e1, hl, hm, p1⟩ := draw5_ok a p s ha hp
 obtain ⟨g, q2, t2, e2, hg, p2⟩ := anyAccess_ok a q1 t1 l ha p1 hl hm
 obtain ⟨v3, q3, t3, e3, -, -, p3⟩ := below_ok a q2 t2 9 ha p2 (by omega) (by omega)
 obtain ⟨v4, q4, t4, e4, -, -, p4⟩ := below_ok a q3 t3 4 ha p3 (by omega) (by omega)
 obtain ⟨v5, q5, t5, e5, -, -, p5⟩ := below_ok a q4 t4 10 ha p4 (by omega) (by omega)
 obtain ⟨v6, q6, t6, e6, -, p6⟩ := pick_ok a q5 t5 [-1, 1000, 1001] ha p5 (by simp) (by simp)
 unfold S.l24Cursor
 rw [e1, Option.bind_some]
 simp only
 rw [e2, Option.bind_some]
 simp only
 rw [e3, Option.bind_some]
 simp only
 rw [e4, Option.bind_some]
 simp only
 rw [e5, Option.bind_some]
 simp only
 rw [e6]
 by_cases h0 : v5 = 0
 ·rw [if_pos (decide_eq_true h0)]
  exact ⟨_, q6, t6, rfl, hg, p6⟩
 ·rw [if_neg (by simpa using h0)]
  by_cases h1 : v5 = 1
  ·rw [if_pos (decide_eq_true h1)]
   exact ⟨_, q6, t6, rfl, hg, p6⟩
  ·rw [if_neg (by simpa using h1)]
   exact ⟨_, q5, t5, rfl, hg, p5⟩
theorem drawFormat_ok (a : Code) (ha : a.length ≤ 1048576) : ∃ c : Cu, S.DrawFormatCursor a = some c ∧ c.1.2.length ≤ 101 := by
 obtain ⟨t, e0⟩ := new_ok a ha
 obtain ⟨c, q1, t1, e1, hc, p1⟩ := cursor24_ok a 0 t ha ⟨by omega, by omega⟩
 unfold S.DrawFormatCursor
 rw [e0, Option.bind_some]
 simp only
 rw [e1, Option.bind_some]
 exact ⟨_, rfl, hc⟩
theorem pickL_ok (a : Code) (p s : Int) (l : List Str) (ha : a.length ≤ 1048576) (hp : Pos a p) (h0 : 0 < l.length) (h1 : l.length ≤ 256) : ∃ (x : Str) (q t : Int), S.l1Pick (a, p, s) l = some (x, (a, q, t)) ∧ x ∈ l ∧ Pos a q := by
 obtain ⟨v, q, t, e, v0, v1, hq⟩ := below_ok a p s (l.length : Int) ha hp (by omega) (by omega)
 unfold S.l1Pick
 obtain ⟨i, rfl⟩ : ∃ i : Nat, v = i := ⟨v.toNat, by omega⟩
 have hi : i < l.length := by omega
 rw [e, Option.bind_some, idx_nat l hi, Option.bind_some]
 exact ⟨_, _, _, rfl, List.getElem_mem hi, hq⟩
theorem drawParse_ok (a : Code) (ha : a.length ≤ 1048576) : ∃ x : Li, S.DrawParseCursor a = some (str x) ∧ x.length ≤ 400000 := by
 obtain ⟨t, e0⟩ := new_ok a ha
 obtain ⟨c, q1, t1, e1, hc, p1⟩ := cursor24_ok a 0 t ha ⟨by omega, by omega⟩
 obtain ⟨v2, q2, t2, e2, -, -, p2⟩ := below_ok a q1 t1 4 ha p1 (by omega) (by omega)
 have hl := curT_len c
 obtain ⟨r, q3, t3, e3, hr⟩ := spoil_ok a q2 t2 (curT c) ha p2 (by omega)
 unfold S.DrawParseCursor
 rw [e0, Option.bind_some]
 simp only
 rw [e1, Option.bind_some]
 simp only
 rw [cur_S c (by omega), Option.bind_some, e2, Option.bind_some]
 simp only
 by_cases h0 : v2 = 0
 ·have e3' : S.l1Spoil (a, q2, t2) (str (curT c)) = some (r, (a, q3, t3)) := e3
  rw [if_pos (decide_eq_true h0), e3', Option.bind_some]
  exact ⟨r, rfl, hr⟩
 ·rw [if_neg (by simpa using h0)]
  by_cases h1 : v2 = 1
  ·rw [if_pos (decide_eq_true h1)]
   obtain ⟨x, q4, t4, e4, hx, -⟩ := pickL_ok a q2 t2 [(str []), (str [109, 48, 40, 41, 43, 48, 64, 48]), (str [109, 48, 40, 49, 44, 50, 41, 43, 51, 64, 49]), (str [109, 53, 40, 41, 43, 48, 64, 48]), (str [109, 48, 40, 41, 43, 48]), (str [109, 48, 40, 41, 64, 48, 43, 48]), (str [109, 48, 40, 44, 41, 43, 48, 64, 48]), (str [109, 48, 40, 41, 43, 48, 49, 64, 48])] ha p2 (by simp) (by simp)
   rw [e4, Option.bind_some]
   refine ⟨x, rfl, ?_⟩
   have : List.length x ≤ 11 := by
    simp only [List.mem_cons, List.not_mem_nil, or_false] at hx
    rcases hx with rfl | rfl | rfl | rfl | rfl | rfl | rfl | rfl <;> decide
   omega
  ·rw [if_neg (by simpa using h1)]
   exact ⟨curT c, rfl, by omega⟩
theorem p_FnPages (a1 : List UInt8) (h1 : Rng.r a1) : Q.FnPages a1 = some true := by
 unfold Q.FnPages Q.big
 rw [Option.bind_some]
 by_cases hb : (1048576 : Int) < (a1.length : Int)
 ·rw [if_pos (decide_eq_true hb)]
 ·rw [if_neg (by simpa using hb)]
  have ha : a1.length ≤ 1048576 := by omega
  obtain ⟨l, n, e1, hl, hsm, hf⟩ := drawPages_ok a1 ha
  obtain ⟨l2, o2, n2, e2, hsm2⟩ := drawPageAt_ok a1 ha
  obtain ⟨bc, e3⟩ := drawCount_ok a1 ha
  obtain ⟨c, e4, hc⟩ := drawFormat_ok a1 ha
  obtain ⟨u, e5, hu⟩ := drawParse_ok a1 ha
  rw [e1]
  simp only [Option.bind_some]
  have hpages : ∃ w : List (List Fa), M.PagesOf l n = some w ∧ S.PagesOf l n = some w ∧ (w = [] ∨ ∃ m : Nat, n = m ∧ 1 ≤ m ∧ m ≤ 9 ∧ w = pgsL m FUEL l) := by
   unfold S.PagesOf M.PagesOf
   rw [inS]
   cases hn : inR n 1 9
   ·refine ⟨[], ?_, rfl, .inl rfl⟩
    rw [fuel_succ, M.PagesOf_l1, (PageAt_eq l 0 n hsm).2]
    unfold pageOf; rw [hn]; rfl
   ·have hn' := inR_iff.1 hn
    obtain ⟨m, rfl⟩ : ∃ m : Nat, n = m := ⟨n.toNat, by omega⟩
    have := pgs_loop l m hsm (by omega) (by omega) FUEL [] 0 (by omega) (by rw [FUEL_eq]; omega) (by simp; omega)
    rw [List.drop_zero, List.nil_append] at this
    have t1 : S.PagesOf_l1 l (m : Int) FUEL [] 0 = _ := this.1
    have t2 : M.PagesOf_l1 l (m : Int) FUEL [] 0 = _ := this.2
    refine ⟨pgsL m FUEL l, ?_, ?_, .inr ⟨m, rfl, by omega, by omega, rfl⟩⟩
    ·rw [t2]; rfl
    ·rw [Option.bind_some, if_neg (by simp), t1]; rfl
  obtain ⟨w, em, es, hw⟩ := hpages
  rw [em, es]
  simp only [Option.bind_some]
  have hrest : (S.DrawPageAt a1).bind (fun x17 =>
     (M.PageAt x17.1 x17.2.1 x17.2.2).bind fun x18 =>
     (S.PageAt x17.1 x17.2.1 x17.2.2).bind fun x19 =>
     (S.DrawCountPages a1).bind fun x20 =>
     (S.DrawFormatCursor a1).bind fun x21 =>
     (M.FormatCursor ((x21.1.1, x21.1.2), x21.2.1, x21.2.2)).bind fun x22 =>
     (M.ParseCursor x22).bind fun x23 =>
     (S.DrawParseCursor a1).bind fun x24 =>
     (M.ParseCursor x24).bind fun x25 =>
     (S.ParseCursor x24).bind fun x26 =>
     (if (decide (x18.2.2 = x19.2.2)) then
      if (decide (x18.2.1 = x19.2.1)) then
       (S.SameFacts x18.1 x19.1).bind fun x28 =>
       if x28 then
        (M.CountPages x20.1 x20.2).bind fun x29 =>
        (S.CountPages x20.1 x20.2).bind fun x30 =>
        if (decide (x29 = x30)) then
         (S.FormatCursor ((x21.1.1, x21.1.2), x21.2.1, x21.2.2)).bind fun x31 =>
         if (decide (x22 = x31)) then
          (S.FormatCursor ((x21.1.1, x21.1.2), x21.2.1, x21.2.2)).bind fun x32 =>
          if (decide (x23.2 = (!decide (x32 = (str []))))) then
           if (!x23.2) then
            some (decide (x25.2 = x26.2))
           else
            (M.FormatCursor ((x23.1.1.1, x23.1.1.2), x23.1.2.1, x23.1.2.2)).bind fun x33 =>
            if (decide (x33 = x22)) then
             some (decide (x25.2 = x26.2))
            else
             some false
          else
           some false
         else
          some false
        else
         some false
       else
        some false
      else
       some false
     else
      some false).bind fun x27 =>
     some x27) = some true := by
   have hpg := pageOf_sm l2 o2 n2 hsm2
   have hpf := SameFacts_refl (pageOf l2 o2 n2).1 (by have := hpg.1.1; omega) (fun f hf => by have := (sm_list (hpg.1.2 f hf).2).1; omega)
   obtain ⟨k, ck1, ck2⟩ := count_same bc.1 bc.2
   have hcl := curT_len c
   have hcm := cur_M c (by omega)
   have hcs := cur_S c (by omega)
   obtain ⟨r, p1, p2, hr⟩ := parse_same (curT c) (by omega)
   obtain ⟨r2, q1, q2, -⟩ := parse_same u (by omega)
   rw [e2]
   simp only [Option.bind_some]
   rw [(PageAt_eq l2 o2 n2 hsm2).1, (PageAt_eq l2 o2 n2 hsm2).2, e3, e4]
   simp only [Option.bind_some]
   rw [show ((c.1.1, c.1.2), c.2.1, c.2.2) = c from rfl, hcm]
   simp only [Option.bind_some]
   rw [p2, e5]
   simp only [Option.bind_some]
   rw [q1, q2]
   simp only [Option.bind_some]
   simp only [decide_true, if_true]
   rw [hpf]
   simp only [Option.bind_some, if_true]
   rw [ck1, ck2]
   simp only [Option.bind_some, if_true, decide_true]
   rw [hcs]
   simp only [Option.bind_some, if_true, decide_true]
   by_cases hcn : curT c = []
   ·have hrz : r = Cz := by
     rcases hr with h | h
     ·exact h
     ·exact absurd hcn h.2.2
    rw [hrz, decide_eq_true (show str (curT c) = str [] from hcn)]
    simp
   ·obtain ⟨g1, g2⟩ := cur_round c hcn
    rw [g1] at p2
    obtain rfl := Option.some.inj p2
    rw [decide_eq_false (show ¬ str (curT c) = str [] from hcn)]
    simp only [Bool.not_false, decide_true, if_true, Bool.not_true, Bool.false_eq_true, if_false]
    rw [show ((c.1.1, c.1.2), c.2.1, c.2.2) = c from rfl, hcm]
    simp
  rcases hw with rfl | ⟨m, rfl, hm1, hm9, rfl⟩
  ·rw [if_neg (by simp), if_neg (by simp)]
   simp only [Option.bind_some]
   rw [if_neg (by simp), fuel_succ, Q.FnPages_l1, if_neg (by simp)]
   exact hrest
  ·obtain ⟨g1, g2, g3⟩ := pgs_spec m hm1 FUEL l (by rw [FUEL_eq]; omega)
   have hdiv : (l.length + m - 1) / m ≤ l.length + m - 1 := Nat.div_le_self _ _
   have hwl : (pgsL m FUEL l).length ≤ 20 := by omega
   have hz : SZ.sz (pgsL m FUEL l) ≤ 1048576 := by
    have e1 := sz_len (pgsL m FUEL l)
    have e2 := szs_flat2 (pgsL m FUEL l)
    have e3 := sz_len l
    have e4 := szs_small l hf
    rw [g1] at e2
    omega
   have hsp := sm_of hz
   have hff : ∀ f ∈ l, f.2.length ≤ 4294967296 := fun f h => by have := hf f h; omega
   rw [if_neg (by simp), if_pos (decide_eq_true (by omega)), join_M _ hz, g1, Option.bind_some, SameFacts_refl l (by omega) hff, Option.bind_some, if_neg (by simp), count_M l.length m (by omega) hm1 hm9, Option.bind_some, g2]
   simp only [decide_true, Bool.not_true, Option.bind_some, Bool.false_eq_true, if_false]
   have hloop := eq_loop (fun k i => Q.FnPages_l1 (pgsL m FUEL l) (pgsL m FUEL l) (l, (m : Int)) k i) (pgsL m FUEL l).length (by omega) (fun k => by rw [Q.FnPages_l1, if_neg (by simp)]) (fun k i hi => by
    have hpi := g3 i hi
    have hmem := List.getElem_mem hi
    have hsi := sm_list (hsp.2 _ hmem)
    have hsf := SameFacts_refl (pgsL m FUEL l)[i] (by omega) (fun f hf => by have := (sm_list (hsi.2 f hf).2).1; omega)
    rw [Q.FnPages_l1, if_pos (decide_eq_true (by omega)), idx_nat _ hi, Option.bind_some, Option.bind_some, hsf, Option.bind_some, if_neg (by simp), w64_succ (by omega), Option.bind_some]
    by_cases hl2 : i + 1 < (pgsL m FUEL l).length
    ·have := hpi.2 hl2
     rw [if_pos (decide_eq_true (by omega)), Option.bind_some, if_neg (by simp; omega), Option.bind_some, decide_eq_false (by show ¬ (m : Int) < _; omega), if_neg (by simp)]
    ·rw [if_neg (by simp; omega), Option.bind_some, Option.bind_some, decide_eq_false (by show ¬ (m : Int) < _; omega), if_neg (by simp)])
   have hloop' : Q.FnPages_l1 (pgsL m FUEL l) (pgsL m FUEL l) (l, (m : Int)) FUEL 0 = some (.inl ()) := hloop
   rw [hloop']
   exact hrest

end Go.Gx.Px
