/- Plain laws: ledgers: a call that arrives. Conditions: none. -/
import Derived.Test.YtnjjpmilcajmkaaPh
import Derived.Test.YtnjjpmilcajmkaaPas
set_option linter.unusedVariables false
set_option linter.unusedSimpArgs false
namespace Go.Gx.Px
abbrev Le := List Int × Int × Int
theorem asc_lt {l : List Int} (h : ascOk l = true) : ∀ (j i : Nat), i < j → j < l.length → nthI l i < nthI l j
  | 0, i, h1, _ => by omega
  | j + 1, i, h1, h2 => by
    unfold ascOk at h
    rw [List.all_eq_true] at h
    have h3 := h (j + 1) (List.mem_range.2 h2)
    unfold ascAt at h3
    simp at h3
    by_cases e : i = j
    · subst e; exact h3
    · exact Int.lt_trans (asc_lt (by unfold ascOk; rw [List.all_eq_true]; exact h) j i (by omega) (by omega)) h3
theorem asc_of {l : List Int} (h : ∀ i, i + 1 < l.length → nthI l i < nthI l (i + 1)) : ascOk l = true := by
  unfold ascOk
  rw [List.all_eq_true]
  intro i hi
  rw [List.mem_range] at hi
  unfold ascAt
  cases i with
  | zero => simp
  | succ i => have := h i hi; simp; omega
def ledOk (x : Le) : Bool := ascOk x.1 && x.1.all (fun k => inR k 0 1000000) && (inR x.2.1 0 1000000000 && inR x.2.2 0 1000000000)
theorem IsLedger_M (x : Le) (h : x.1.length ≤ 1048576) : M.IsLedger x = some (ledOk x) := by
  unfold M.IsLedger ledOk
  rw [ascending_M _ h, Slices_ContainsFunc_Lint_int_M_IsLedger_c1_eq x.1 (fun k => !inR k 0 1000000) (by omega) (fun e he => by unfold M.IsLedger_c1 M.isKey; rw [inM]; rfl), inM, inM, any_not]
  cases ascOk x.1 <;> cases x.1.all (fun k => inR k 0 1000000) <;> cases inR x.2.1 0 1000000000 <;> rfl
theorem IsLedger_S (x : Le) (h : x.1.length ≤ 1048576) : S.IsLedger x = some (ledOk x) := by
  unfold S.IsLedger
  rw [all_loopN (S.IsLedger_l1 x) x.1.length (fun i => inR (nthI x.1 i) 0 1000000 && ascAt x.1 i) false (by omega) (fun k => by rw [S.IsLedger_l1, if_neg (by simp)]) (fun k i hi => by
    rw [S.IsLedger_l1, if_pos (by simpa using hi), idx_nthI _ hi, w64_succ (by omega)]
    simp only [Option.bind_some, inS]
    unfold ascAt
    cases inR (nthI x.1 i) 0 1000000
    · simp
    · by_cases h5 : 0 < i
      · rw [w64_pred h5 (by omega), idx_nthI _ (show i - 1 < x.1.length by omega)]
        by_cases h6 : nthI x.1 i ≤ nthI x.1 (i - 1) <;> simp [h5, h6]
      · simp [h5]), all_and, inS, inS]
  have e1 : (List.range x.1.length).all (fun i => inR (nthI x.1 i) 0 1000000) = x.1.all (fun k => inR k 0 1000000) := all_range x.1 0 (fun k => inR k 0 1000000)
  rw [e1]
  unfold ledOk ascOk
  cases x.1.all (fun k => inR k 0 1000000) <;> cases (List.range x.1.length).all (ascAt x.1) <;> cases inR x.2.1 0 1000000000 <;> cases inR x.2.2 0 1000000000 <;> rfl
/-- the place of a number in an ascending list -/
def posI (l : List Int) (x : Int) : Nat := l.findIdx fun e => decide (x < e)
def putI (l : List Int) (x : Int) : List Int := if hasI l x then l else l.take (posI l x) ++ [x] ++ l.drop (posI l x)
theorem posI_le (l : List Int) (x : Int) : posI l x ≤ l.length := List.findIdx_le_length
theorem posI_lt (l : List Int) (x : Int) {i : Nat} (h : i < posI l x) (hi : i < l.length) : l[i] ≤ x := by
  have := List.not_of_lt_findIdx (xs := l) (p := fun e => decide (x < e)) (i := i) h
  simpa using this
theorem posI_at (l : List Int) (x : Int) (h : posI l x < l.length) : x < l[posI l x] := by
  exact of_decide_eq_true (List.findIdx_getElem (xs := l) (p := fun e => decide (x < e)) (w := h))
theorem Put_S (l : List Int) (x : Int) (h1 : l.length ≤ 1048576) : S.l3Put l x = some (putI l x) := by
  unfold S.l3Put
  rw [l2Has_eq l x h1, Option.bind_some]
  unfold putI
  cases hasI l x
  · simp only [Bool.false_eq_true, if_false]
    generalize hp : posI l x = p
    have hple : p ≤ l.length := by rw [← hp]; exact posI_le _ _
    obtain ⟨k, s, g1, rfl⟩ := loop_inv0 (fun k (s : List Int × Bool) i => S.l3Put_l1 l x k s.1 s.2 i) (fun i s => s = if p < i then (l.take p ++ [x] ++ (l.take i).drop p, true) else (l.take i, false)) l.length (by omega) (([] : List Int), false) (by simp) (fun k i s hi hs => by
      subst hs
      refine ⟨_, ?_, rfl⟩
      have ht : l.take (i + 1) = l.take i ++ [l[i]] := by rw [List.take_add_one, List.getElem?_eq_getElem hi]; rfl
      by_cases c1 : p < i
      · have e1 : (l.take p ++ [x] ++ (l.take i).drop p) ++ [l[i]] = l.take p ++ [x] ++ (l.take (i + 1)).drop p := by
          rw [ht, List.drop_append_of_le_length (by rw [List.length_take]; omega), List.append_assoc]
        simp only [c1, if_true, show p < i + 1 by omega]
        rw [S.l3Put_l1, if_pos (by simpa using hi), idx_nat l hi]
        simp only [Bool.not_true, Bool.false_eq_true, if_false, Option.bind_some]
        rw [app_eq _ _ (by simp only [List.length_append, List.length_take, List.length_drop, List.length_cons, List.length_nil]; omega), Option.bind_some, w64_succ (by omega), e1]
      · have hgt : decide (x < l[i]) = decide (p = i) := by
          by_cases c2 : p = i
          · subst c2
            have := posI_at l x (by omega)
            simp only [hp] at this
            simp [this]
          · have h9 := posI_lt l x (i := i) (by omega) hi
            simp only [c2, decide_false]
            simpa using h9
        simp only [c1, if_false]
        rw [S.l3Put_l1, if_pos (by simpa using hi), idx_nat l hi]
        simp only [Bool.not_false, if_true, Option.bind_some, hgt]
        by_cases c2 : p = i
        · subst c2
          simp only [decide_true, if_true, Option.bind_some, show p < p + 1 by omega]
          rw [app_eq _ _ (by simp only [List.length_take, List.length_cons, List.length_nil]; omega)]
          simp only [Option.bind_some]
          rw [app_eq _ _ (by simp only [List.length_append, List.length_take, List.length_cons, List.length_nil]; omega), Option.bind_some, w64_succ (by omega), ht, List.drop_append_of_le_length (by rw [List.length_take]; omega)]
          simp
        · simp only [c2, decide_false, Bool.false_eq_true, if_false, Option.bind_some, show ¬ p < i + 1 by omega]
          rw [app_eq _ _ (by simp only [List.length_take, List.length_cons, List.length_nil]; omega), Option.bind_some, w64_succ (by omega), ht])
    rw [g1]
    by_cases c1 : p < l.length
    · simp only [c1, if_true]
      rw [S.l3Put_l1, if_neg (by simp), Option.bind_some]
      simp
    · have : p = l.length := by omega
      subst this
      simp only [Nat.lt_irrefl, if_false]
      rw [S.l3Put_l1, if_neg (by simp), Option.bind_some]
      simp only [Bool.not_false, if_true]
      rw [app_eq _ _ (by simp only [List.length_take, List.length_cons, List.length_nil]; omega)]
      simp
  · simp
theorem isNaN_i (x : Int) : Slices.isNaN_int x = some false := by unfold Slices.isNaN_int; simp
theorem isNaN_c (x : Int) : Cmp.isNaN_int x = some false := by unfold Cmp.isNaN_int; simp
theorem Less_eq (a b : Int) : Cmp.Less_int a b = some (decide (a < b)) := by
  unfold Cmp.Less_int; rw [isNaN_c]; simp
theorem mid_eq {a b : Nat} (h : a + b < 4294967296) : w64 (shr (wu64 (w64 ((a : Int) + (b : Int)))) 1) = (((a + b) / 2 : Nat) : Int) := by
  have e0 : w64 ((a : Int) + (b : Int)) = (a : Int) + (b : Int) := w64_id (by omega) (by omega)
  rw [e0, wu64_id (by omega) (by omega)]
  have e : shr ((a : Int) + (b : Int)) 1 = (((a + b) / 2 : Nat) : Int) := by
    unfold shr
    show ((a : Int) + b).fdiv (2 ^ 1) = _
    rw [Int.fdiv_eq_ediv_of_nonneg _ (by decide)]
    omega
  rw [e, w64_id (by omega) (by omega)]
/-- where a number is, or would be, in an ascending list -/
theorem search_loop (l : List Int) (x : Int) (hl : l.length ≤ 1048576) (ha : ascOk l = true) (p : Nat) (hp : p ≤ l.length) (h1 : ∀ i, i < p → nthI l i < x) (h2 : ∀ i, p ≤ i → i < l.length → x ≤ nthI l i) :
    ∀ (K a b : Nat), a ≤ p → p ≤ b → b ≤ l.length → b - a < K → Slices.BinarySearch_Lint_int_l1 l x K (a : Int) (b : Int) = some (p : Int)
  | 0, a, b, _, _, _, h => by omega
  | K + 1, a, b, h3, h4, h5, h6 => by
    rw [Slices.BinarySearch_Lint_int_l1]
    by_cases c : a < b
    · rw [if_pos (by simpa using c), mid_eq (by omega), idx_nthI l (by omega), Option.bind_some, Less_eq, Option.bind_some]
      by_cases c2 : nthI l ((a + b) / 2) < x
      · have : (a + b) / 2 < p := by
          apply Nat.lt_of_not_le
          intro h7
          have := h2 _ h7 (by omega)
          omega
        rw [if_pos (by simpa using c2), Option.bind_some]
        simp only
        rw [w64_succ (by omega)]
        exact search_loop l x hl ha p hp h1 h2 K _ b (by omega) h4 h5 (by omega)
      · have : p ≤ (a + b) / 2 := by
          apply Nat.le_of_not_lt
          intro h7
          exact c2 (h1 _ h7)
        rw [if_neg (by simpa using c2), Option.bind_some]
        exact search_loop l x hl ha p hp h1 h2 K a _ h3 this (by omega) (by omega)
    · rw [if_neg (by simpa using c)]
      obtain rfl : a = p := by omega
      rfl
theorem nthI_get {l : List Int} {i : Nat} (h : i < l.length) : nthI l i = l[i] := by unfold nthI; simp [h]
theorem hasI_iff {l : List Int} {x : Int} : hasI l x = true ↔ ∃ i, i < l.length ∧ nthI l i = x := by
  unfold hasI
  rw [List.any_eq_true]
  constructor
  · rintro ⟨e, he, h⟩
    obtain ⟨i, hi, rfl⟩ := List.getElem_of_mem he
    exact ⟨i, hi, by rw [nthI_get hi]; simpa using h⟩
  · rintro ⟨i, hi, h⟩
    exact ⟨l[i], List.getElem_mem hi, by rw [nthI_get hi] at h; simpa using h⟩
/-- the search in an ascending list -/
theorem Search_eq (l : List Int) (x : Int) (hl : l.length ≤ 1048576) (ha : ascOk l = true) : ∃ p : Nat, Slices.BinarySearch_Lint_int l x = some ((p : Int), hasI l x) ∧ p ≤ l.length ∧ (hasI l x = false → p = posI l x) := by
  let q : Int → Bool := fun e => decide (x ≤ e)
  have hple : l.findIdx q ≤ l.length := List.findIdx_le_length
  have h1 : ∀ i, i < l.findIdx q → nthI l i < x := fun i hi => by
    have := List.not_of_lt_findIdx (xs := l) (p := q) (i := i) hi
    rw [nthI_get (by omega)]
    simpa [q] using this
  have hat : ∀ h : l.findIdx q < l.length, x ≤ nthI l (l.findIdx q) := fun h => by
    have := List.findIdx_getElem (xs := l) (p := q) (w := h)
    rw [nthI_get h]; simpa [q] using this
  have h2 : ∀ i, l.findIdx q ≤ i → i < l.length → x ≤ nthI l i := fun i h3 h4 => by
    by_cases e : l.findIdx q = i
    · rw [← e]; exact hat (by omega)
    · have := asc_lt ha i (l.findIdx q) (by omega) h4
      have := hat (by omega)
      omega
  refine ⟨l.findIdx q, ?_, hple, fun hf => ?_⟩
  · unfold Slices.BinarySearch_Lint_int
    have hlo := search_loop l x hl ha (l.findIdx q) hple h1 h2 FUEL 0 l.length (by omega) hple (Nat.le_refl _) (by rw [FUEL_eq]; omega)
    rw [show (0 : Int) = ((0 : Nat) : Int) from rfl, hlo, Option.bind_some]
    by_cases c : l.findIdx q < l.length
    · rw [if_pos (by simpa using c), idx_nthI l c, Option.bind_some]
      by_cases e : nthI l (l.findIdx q) = x
      · have : hasI l x = true := hasI_iff.2 ⟨_, c, e⟩
        rw [this]; simp [e]
      · have : hasI l x = false := by
          cases hh : hasI l x
          · rfl
          · obtain ⟨i, hi, hx⟩ := hasI_iff.1 hh
            exfalso
            have h3 := hat c
            by_cases c2 : i < l.findIdx q
            · have := h1 i c2; omega
            · by_cases c3 : l.findIdx q = i
              · rw [c3] at e; exact e hx
              · have := asc_lt ha i (l.findIdx q) (by omega) hi; omega
        rw [this]
        simp [e, isNaN_i]
    · have : hasI l x = false := by
        cases hh : hasI l x
        · rfl
        · obtain ⟨i, hi, hx⟩ := hasI_iff.1 hh
          have := h1 i (by omega); omega
      rw [if_neg (by simpa using c), this]
      rfl
  · -- the first that is not less is the first that is greater
    have hne : ∀ i, i < l.length → nthI l i ≠ x := fun i hi e => by
      have : hasI l x = true := hasI_iff.2 ⟨i, hi, e⟩
      rw [hf] at this; cases this
    have hpo := posI_le l x
    rcases Nat.lt_trichotomy (l.findIdx q) (posI l x) with c | c | c
    · exfalso
      have h3 := posI_lt l x c (by omega)
      have h4 := hat (by omega)
      rw [nthI_get (by omega)] at h4
      have := hne (l.findIdx q) (by omega)
      rw [nthI_get (by omega)] at this
      omega
    · exact c
    · exfalso
      have h3 := posI_at l x (by omega)
      have h4 := h1 _ c
      rw [nthI_get (by omega)] at h4
      omega
/-- a call that arrives -/
def recv (x : Le) (key cost : Int) : Le := if hasI x.1 key then (x.1, x.2.1, x.2.2 + 1) else (putI x.1 key, x.2.1 + cost, x.2.2 + 1)
theorem receive_M (x : Le) (key cost : Int) (hl : x.1.length ≤ 1048576) (ha : ascOk x.1 = true) (h1 : 0 ≤ x.2.1) (h2 : x.2.1 ≤ 1000000000) (h3 : 0 ≤ x.2.2) (h4 : x.2.2 ≤ 1000000000) (h5 : 0 ≤ cost) (h6 : cost ≤ 99) :
    M.Ledger_receive x key cost = some (recv x key cost) := by
  unfold M.Ledger_receive recv putI
  obtain ⟨p, e1, e2, e3⟩ := Search_eq x.1 key hl ha
  rw [e1, Option.bind_some, w64_sm (by omega) (by omega), w64_sm (by omega) (by omega)]
  cases hh : hasI x.1 key
  · rw [e3 hh]
    simp only [Bool.not_false, if_true, Bool.false_eq_true, if_false]
    unfold Slices.Insert_Lint_int ins
    have := posI_le x.1 key
    rw [if_pos ⟨by omega, by omega, rfl, by rw [LIM_eq]; omega⟩]
    simp
  · simp
def rcOk (x : Le) (key cost : Int) : Bool := ledOk x && (inR key 0 1000000 && inR cost 0 99) && !(decide (999999000 < x.2.1) || decide (999999000 < x.2.2))
def rc (x : Le) (key cost : Int) : Le × Bool := if rcOk x key cost then (recv x key cost, true) else (x, false)
theorem led_parts {x : Le} (h : ledOk x = true) : ascOk x.1 = true ∧ (∀ k ∈ x.1, 0 ≤ k ∧ k ≤ 1000000) ∧ (0 ≤ x.2.1 ∧ x.2.1 ≤ 1000000000) ∧ 0 ≤ x.2.2 ∧ x.2.2 ≤ 1000000000 := by
  unfold ledOk at h
  simp only [Bool.and_eq_true, inR_iff, List.all_eq_true] at h
  exact ⟨h.1.1, h.1.2, h.2.1, h.2.2⟩
theorem copyLedger_S (x : Le) (h : x.1.length ≤ 1048576) : S.l27Copy x = some x := by
  unfold S.l27Copy; rw [app_eq _ _ (by simp; omega)]; rfl
theorem copyLedger_M (x : Le) (h : x.1.length ≤ 1048576) : M.copyLedger x = some x := by
  unfold M.copyLedger Slices.Clone_Lint_int; rw [app_eq _ _ (by simp; omega)]; rfl
theorem putI_len (l : List Int) (x : Int) : (putI l x).length ≤ l.length + 1 := by
  unfold putI
  split
  · omega
  · have := posI_le l x; simp only [List.length_append, List.length_take, List.length_drop, List.length_cons, List.length_nil]; omega
theorem ReceiveCall_S (x : Le) (key cost : Int) (hl : x.1.length ≤ 1048576) : S.ReceiveCall x key cost = some (rc x key cost) := by
  unfold S.ReceiveCall rc rcOk
  rw [show (x.1, x.2.1, x.2.2) = x from rfl, copyLedger_S x hl, IsLedger_S x hl, inS, inS]
  cases h1 : ledOk x
  · rfl
  · obtain ⟨-, -, h2, h3⟩ := led_parts h1
    cases h4 : inR key 0 1000000
    · rfl
    · cases h5 : inR cost 0 99
      · rfl
      · rw [inR_iff] at h4 h5
        by_cases h6 : 999999000 < x.2.1
        · simp [h6]
        · by_cases h7 : 999999000 < x.2.2
          · simp [h6, h7]
          · simp only [Option.bind_some, Bool.not_true, Bool.false_eq_true, if_false, h6, h7, decide_false, Bool.and_self, Bool.or_self, Bool.not_false, if_true, l2Has_eq _ _ hl]
            rw [w64_sm (by omega) (by omega), w64_sm (by omega) (by omega), Put_S _ _ hl]
            have := putI_len x.1 key
            simp only [Option.bind_some]
            rw [app_eq _ _ (by simp; omega)]
            unfold recv
            cases hasI x.1 key <;> rfl
theorem ReceiveCall_M (x : Le) (key cost : Int) (hl : x.1.length ≤ 1048576) : M.ReceiveCall x key cost = some (rc x key cost) := by
  unfold M.ReceiveCall rc rcOk M.isKey M.isCost
  rw [show (x.1, x.2.1, x.2.2) = x from rfl, copyLedger_M x hl, IsLedger_M x hl, inM, inM]
  cases h1 : ledOk x
  · rfl
  · obtain ⟨h0, -, h2, h3⟩ := led_parts h1
    cases h4 : inR key 0 1000000
    · rfl
    · cases h5 : inR cost 0 99
      · rfl
      · rw [inR_iff] at h4 h5
        by_cases h6 : 999999000 < x.2.1
        · simp [h6]
        · by_cases h7 : 999999000 < x.2.2
          · simp [h6, h7]
          · simp only [Option.bind_some, Bool.not_true, Bool.false_eq_true, if_false, h6, h7, decide_false, Bool.and_self, Bool.or_self, Bool.not_false, if_true]
            rw [show (x.1, x.2.1, x.2.2) = x from rfl, receive_M x key cost hl h0 h2.1 h2.2 h3.1 h3.2 h5.1 h5.2]
            rfl
theorem led_sm {x : Le} (h : ledOk x = true) : x.1.length ≤ 1000001 := by
  obtain ⟨h1, h2, -⟩ := led_parts h
  have key : ∀ i, i < x.1.length → (i : Int) ≤ nthI x.1 i := by
    intro i
    induction i with
    | zero => intro hi; rw [nthI_get hi]; exact (h2 _ (List.getElem_mem hi)).1
    | succ i ih => intro hi; have := asc_lt h1 (i + 1) i (by omega) hi; have := ih (by omega); omega
  by_cases c : x.1.length = 0
  · omega
  · have h3 := key (x.1.length - 1) (by omega)
    have h4 := (h2 _ (List.getElem_mem (show x.1.length - 1 < x.1.length by omega))).2
    rw [nthI_get (by omega)] at h3
    omega
theorem sm_le {x : Le} : SZ.sm x ↔ x.1.length ≤ 1048576 := ⟨fun h => h.1.1, fun h => ⟨sm_ints h, trivial, trivial⟩⟩
theorem rc_sm (x : Le) (key cost : Int) (h : SZ.sm x) : SZ.sm (rc x key cost) := by
  unfold rc
  by_cases c : rcOk x key cost = true
  · rw [if_pos c]
    have h1 : ledOk x = true := by unfold rcOk at c; simp only [Bool.and_eq_true] at c; exact c.1.1
    have h2 := led_sm h1
    refine ⟨?_, trivial⟩
    unfold recv
    split
    · exact sm_le.2 (show x.1.length ≤ _ by omega)
    · exact sm_le.2 (show (putI x.1 key).length ≤ _ by have := putI_len x.1 key; omega)
  · rw [if_neg c]; exact ⟨h, trivial⟩
theorem same_ReceiveCall (x : Le) (key cost : Int) (z1 : SZ.sz x ≤ 1048576) (_ : SZ.sz key ≤ 1048576) (_ : SZ.sz cost ≤ 1048576) (_ : Rng.r x) (_ : Rng.r key) (_ : Rng.r cost) : ∃ r, S.ReceiveCall x key cost = some r ∧ M.ReceiveCall x key cost = some r ∧ SZ.sm r :=
  ⟨_, ReceiveCall_S x key cost (sm_le.1 (sm_of z1)), ReceiveCall_M x key cost (sm_le.1 (sm_of z1)), rc_sm x key cost (sm_of z1)⟩
end Go.Gx.Px
