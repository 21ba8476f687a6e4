/- Plain laws: windows and times. Conditions: none. -/
import Derived.Test.YtpkooeejhbjajaaPslA
set_option linter.unusedVariables false
set_option linter.unusedSimpArgs false
namespace Go.Gx.Pw
open Go.Gx.Px
theorem inS (a b c : Int) : S.l1In a b c = some (decide (b ≤ a) && decide (a ≤ c)) := by
  unfold S.l1In
  by_cases h : b ≤ a <;> simp [h]
theorem inM (a b c : Int) : M.within a b c = some (decide (b ≤ a) && decide (a ≤ c)) := by
  unfold M.within
  by_cases h : b ≤ a <;> simp [h]
theorem app_eq {α : Type} (a b : List α) (h : a.length + b.length ≤ 4294967296) : app a b = some (a ++ b) := by
  unfold app; rw [if_pos (by rw [LIM_eq]; exact h)]
/-- a list that is built by appending what each element gives -/
theorem map_loop {α β : Type} (f : Nat → List β → Int → Option (List β)) (a : List α) (g : α → β) (hn : a.length ≤ 4294967296) (he : ∀ k x, f (k + 1) x (a.length : Int) = some x)
    (hs : ∀ k (x : List β) (i : Nat) (hi : i < a.length), x.length = i → f (k + 1) x (i : Int) = f k (x ++ [g a[i]]) ((i + 1 : Nat) : Int)) : f FUEL [] 0 = some (a.map g) := by
  obtain ⟨k, s', h1, rfl⟩ := loop_inv0 f (fun i x => x = (a.take i).map g) a.length hn [] (by simp) (fun k i x hi hx => ⟨_, hs k x i hi (by rw [hx]; simp; omega), by
    rw [hx, List.take_add_one, List.getElem?_eq_getElem hi, List.map_append]; rfl⟩)
  rw [h1, he, List.take_length]
-- a loop that goes on while all is well
open Classical in
theorem all_loop (f : Nat → Int → Option (Sum Unit Bool)) (p : Nat → Bool) (n : Nat) (hend : ∀ k, f (k + 1) (n : Int) = some (.inl ()))
    (hstep : ∀ k i, i < n → f (k + 1) (i : Int) = if p i then f k ((i + 1 : Nat) : Int) else some (.inr false)) :
    ∀ (k i : Nat), i ≤ n → n - i < k → f k (i : Int) = some (if (∀ j, i ≤ j → j < n → p j = true) then .inl () else .inr false)
  | 0, i, _, h => by omega
  | k + 1, i, hi, h => by
    by_cases hc : i < n
    · rw [hstep k i hc]
      by_cases hp : p i = true
      · rw [if_pos hp, all_loop f p n hend hstep k (i + 1) (by omega) (by omega)]
        by_cases hq : ∀ j, i + 1 ≤ j → j < n → p j = true
        · rw [if_pos hq, if_pos (fun j h1 h2 => by
            by_cases hj : j = i
            · subst hj; exact hp
            · exact hq j (by omega) h2)]
        · rw [if_neg hq, if_neg (fun h1 => hq fun j h2 h3 => h1 j (by omega) h3)]
      · rw [if_neg hp, if_neg (fun h1 => hp (h1 i (Nat.le_refl _) hc))]
    · have e : i = n := by omega
      subst e
      rw [hend k, if_pos (fun j h1 h2 => by omega)]
def nth (a : List Int) (i : Nat) : Int := a.getD i 0
theorem idx_nth (a : List Int) {i : Nat} (h : i < a.length) : idx a (i : Int) = some (nth a i) := by
  rw [idx_nat a h]; simp [nth, h]
def okT (a : List Int) (i : Nat) : Bool := decide (0 ≤ nth a i) && decide (nth a i ≤ 10000) && !(decide (0 < i) && decide (nth a i < nth a (i - 1)))
theorem w64_pred {i : Nat} (h0 : 0 < i) (h : i < 4294967296) : w64 ((i : Int) - 1) = ((i - 1 : Nat) : Int) := by
  rw [w64_id (by omega) (by omega)]; omega
theorem pos_cast (i : Nat) : ((0 : Int) < (i : Int)) ↔ 0 < i := by omega
open Classical in
theorem l18Times_eq (a : List Int) (ha : a.length ≤ 1048576) : S.l18Times a = some (decide (∀ j, 0 ≤ j → j < a.length → okT a j = true) && decide (a.length ≤ 1000)) := by
  unfold S.l18Times
  have h := all_loop (S.l18Times_l1 a) (okT a) a.length (fun k => by rw [S.l18Times_l1, if_neg (by simp)]) (fun k i hi => by
    rw [S.l18Times_l1, if_pos (by simpa using hi), idx_nth a hi]
    simp only [Option.bind_some, inS, w64_succ (show i < 4611686018427387904 by omega)]
    unfold okT
    by_cases h1 : 0 ≤ nth a i <;> by_cases h2 : nth a i ≤ 10000 <;> by_cases h3 : 0 < i
    · rw [w64_pred h3 (by omega), idx_nth a (show i - 1 < a.length by omega)]
      by_cases h4 : nth a i < nth a (i - 1) <;> simp [h1, h2, h3, h4, pos_cast]
    all_goals simp [h1, h2, h3, pos_cast]) FUEL 0 (by omega) (by rw [FUEL_eq]; omega)
  rw [show (0 : Int) = ((0 : Nat) : Int) from rfl, h]
  by_cases hq : ∀ j, 0 ≤ j → j < a.length → okT a j = true
  · rw [if_pos hq, Option.bind_some]; dsimp only
    rw [decide_eq_true hq, Bool.true_and]
    congr 1
    exact decide_eq_decide.2 (by omega)
  · rw [if_neg hq, Option.bind_some]; dsimp only
    rw [decide_eq_false hq, Bool.false_and]
theorem bit_eq (b : Bool) : M.bit b = some (if b then 1 else 0) := by unfold M.bit; cases b <;> rfl
theorem CallsIn_same (a : List Int) (ha : a.length ≤ 1048576) (x L : Int) (hx : 0 ≤ x) : ∀ (k i : Nat) (c : Int), 0 ≤ c → c ≤ i → i ≤ a.length → S.CallsIn_l1 a x L k c (i : Int) = M.CallsIn_l1 a x L k c (i : Int) ∧ (a.length - i < k → ∃ r, S.CallsIn_l1 a x L k c (i : Int) = some r)
  | 0, i, c, h0, h1, h2 => ⟨rfl, fun h => by omega⟩
  | k + 1, i, c, h0, h1, h2 => by
    rw [S.CallsIn_l1, M.CallsIn_l1]
    by_cases hc : i < a.length
    · rw [if_pos (by simpa using hc), if_pos (by simpa using hc), idx_nth a hc]
      simp only [Option.bind_some, bit_eq, w64_succ (show i < 4611686018427387904 by omega)]
      have e0 : w64 (c + 0) = c := by rw [w64_id (by omega) (by omega)]; omega
      have e1 : w64 (c + 1) = c + 1 := w64_id (by omega) (by omega)
      by_cases g1 : x ≤ nth a i
      · by_cases g2 : w64 (nth a i - x) < L
        · have ih := CallsIn_same a ha x L hx k (i + 1) (c + 1) (by omega) (by omega) (by omega)
          simp only [g1, g2, hx, show 0 ≤ nth a i by omega, decide_true, if_true, Option.bind_some, e1]
          exact ⟨ih.1, fun h => ih.2 (by omega)⟩
        · have ih := CallsIn_same a ha x L hx k (i + 1) c (by omega) (by omega) (by omega)
          simp only [g1, g2, hx, decide_true, decide_false, if_true, if_false, Bool.false_eq_true, Option.bind_some, e0]
          exact ⟨ih.1, fun h => ih.2 (by omega)⟩
      · have ih := CallsIn_same a ha x L hx k (i + 1) c (by omega) (by omega) (by omega)
        simp only [g1, hx, decide_true, decide_false, if_true, if_false, Bool.false_eq_true, Option.bind_some, e0]
        exact ⟨ih.1, fun h => ih.2 (by omega)⟩
    · rw [if_neg (by simpa using hc), if_neg (by simpa using hc)]
      exact ⟨rfl, fun _ => ⟨c, rfl⟩⟩
def cnt (a : List Int) (x L : Int) : Int := (S.CallsIn a x L).getD 0
theorem CallsIn_S (a : List Int) (ha : a.length ≤ 1048576) (x L : Int) (hx : 0 ≤ x) : S.CallsIn a x L = some (cnt a x L) ∧ M.CallsIn a x L = some (cnt a x L) := by
  obtain ⟨h1, h2⟩ := CallsIn_same a ha x L hx FUEL 0 0 (by omega) (by omega) (by omega)
  obtain ⟨r, hr⟩ := h2 (by rw [FUEL_eq]; omega)
  have hS : S.CallsIn a x L = some r := by unfold S.CallsIn; rw [show (S.CallsIn_l1 a x L FUEL 0 0) = some r from hr]; rfl
  have hM : M.CallsIn a x L = some r := by unfold M.CallsIn; rw [show (M.CallsIn_l1 a x L FUEL 0 0) = some r from h1 ▸ hr]; rfl
  have hc : cnt a x L = r := by unfold cnt; rw [hS]; rfl
  rw [hc]; exact ⟨hS, hM⟩
def okC (a : List Int) (w : Int × Int) (i : Nat) : Bool := !decide (w.2 < cnt a (nth a i) w.1)
def okW (w : Int × Int) : Bool := (decide (1 ≤ w.1) && decide (w.1 ≤ 100)) && (decide (1 ≤ w.2) && decide (w.2 ≤ 99))
theorem Window_S (w : Int × Int) : S.IsWindow w = some (okW w) := by
  unfold S.IsWindow okW; rw [inS, inS]
  by_cases h : (decide (1 ≤ w.1) && decide (w.1 ≤ 100)) = true <;> simp [h]
theorem Window_M (w : Int × Int) : M.IsWindow w = some (okW w) := by
  unfold M.IsWindow okW; rw [inM, inM]
  by_cases h : (decide (1 ≤ w.1) && decide (w.1 ≤ 100)) = true <;> simp [h]
theorem okT_nn {a : List Int} {i : Nat} (h : okT a i = true) : 0 ≤ nth a i := by
  unfold okT at h; simp at h; exact h.1.1
open Classical in
theorem IsKept_S (a : List Int) (w : Int × Int) (ha : a.length ≤ 1048576) : S.IsKept a w = some (decide (∀ j, 0 ≤ j → j < a.length → okT a j = true) && decide (a.length ≤ 1000) && okW w && decide (∀ j, 0 ≤ j → j < a.length → okT a j = true ∧ okC a w j = true)) := by
  unfold S.IsKept
  rw [l18Times_eq a ha]
  by_cases hq : ∀ j, 0 ≤ j → j < a.length → okT a j = true
  · by_cases hl : a.length ≤ 1000
    · rw [decide_eq_true hq]
      simp only [hl, decide_true, Bool.and_true, Bool.true_and, Option.bind_some, Bool.not_true, Bool.false_eq_true, if_false, Window_S]
      cases hw : okW w
      · simp [hw]
      · have hw' : okW (w.1, w.2) = true := hw
        simp only [hw', Bool.not_true, Bool.false_eq_true, if_false]
        have h := all_loop (S.IsKept_l1 a w) (fun i => okT a i && okC a w i) a.length (fun k => by rw [S.IsKept_l1, if_neg (by simp)]) (fun k i hi => by
          have hn := okT_nn (hq i (by omega) hi)
          rw [S.IsKept_l1, if_pos (by simpa using hi), idx_nth a hi, Option.bind_some, (CallsIn_S a ha _ _ hn).1, Option.bind_some, w64_succ (by omega)]
          unfold okC
          rw [hq i (by omega) hi, Bool.true_and]
          by_cases h3 : w.2 < cnt a (nth a i) w.1 <;> simp [h3]) FUEL 0 (by omega) (by rw [FUEL_eq]; omega)
        rw [show (0 : Int) = ((0 : Nat) : Int) from rfl, h]
        by_cases hc : ∀ j, 0 ≤ j → j < a.length → (okT a j && okC a w j) = true
        · rw [if_pos hc, Option.bind_some]
          have hc' : ∀ j, 0 ≤ j → j < a.length → okT a j = true ∧ okC a w j = true := fun j h1 h2 => by simpa using hc j h1 h2
          rw [decide_eq_true hc']; simp
        · rw [if_neg hc, Option.bind_some]
          have hc' : ¬ ∀ j, 0 ≤ j → j < a.length → okT a j = true ∧ okC a w j = true := fun h => hc fun j h1 h2 => by simpa using h j h1 h2
          rw [decide_eq_false hc']; simp
    · simp [hl]
  · rw [decide_eq_false hq]; simp
open Classical in
theorem IsKept_M (a : List Int) (w : Int × Int) (ha : a.length ≤ 1048576) : M.IsKept a w = some (decide (a.length ≤ 1000) && okW w && decide (∀ j, 0 ≤ j → j < a.length → okT a j = true ∧ okC a w j = true)) := by
  unfold M.IsKept
  by_cases hl : a.length ≤ 1000
  · rw [if_neg (by simp; omega), Window_M]
    cases hw : okW w
    · have hw' : okW (w.1, w.2) = false := hw
      simp [hw']
    · have hw' : okW (w.1, w.2) = true := hw
      simp only [hw', Option.bind_some, Bool.not_true, Bool.false_eq_true, if_false, hl, decide_true, Bool.true_and]
      have h := all_loop (M.IsKept_l1 a w) (fun i => okT a i && okC a w i) a.length (fun k => by rw [M.IsKept_l1, if_neg (by simp)]) (fun k i hi => by
        rw [M.IsKept_l1, if_pos (by simpa using hi), idx_nth a hi]
        unfold M.isTime
        simp only [Option.bind_some, inM, w64_succ (show i < 4611686018427387904 by omega)]
        unfold okC okT
        by_cases h1 : 0 ≤ nth a i
        · rw [(CallsIn_S a ha (nth a i) w.1 h1).2]
          by_cases h2 : nth a i ≤ 10000 <;> by_cases h3 : 0 < i
          · rw [w64_pred h3 (by omega), idx_nth a (show i - 1 < a.length by omega)]
            by_cases h4 : nth a i < nth a (i - 1) <;> by_cases h5 : w.2 < cnt a (nth a i) w.1 <;> simp [h1, h2, h3, h4, h5, pos_cast]
          · by_cases h5 : w.2 < cnt a (nth a i) w.1 <;> simp [h1, h2, h3, h5, pos_cast]
          · simp [h1, h2, h3, pos_cast]
          · simp [h1, h2, h3, pos_cast]
        · simp [h1]) FUEL 0 (by omega) (by rw [FUEL_eq]; omega)
      rw [show (0 : Int) = ((0 : Nat) : Int) from rfl, h]
      by_cases hc : ∀ j, 0 ≤ j → j < a.length → (okT a j && okC a w j) = true
      · rw [if_pos hc, Option.bind_some]
        have hc' : ∀ j, 0 ≤ j → j < a.length → okT a j = true ∧ okC a w j = true := fun j h1 h2 => by simpa using hc j h1 h2
        rw [decide_eq_true hc']
      · rw [if_neg hc, Option.bind_some]
        have hc' : ¬ ∀ j, 0 ≤ j → j < a.length → okT a j = true ∧ okC a w j = true := fun h => hc fun j h1 h2 => by simpa using h j h1 h2
        rw [decide_eq_false hc']
  · rw [if_pos (by simp; omega)]
    simp [hl]
open Classical in
theorem IsKept_same (a : List Int) (w : Int × Int) (ha : a.length ≤ 1048576) : ∃ b, S.IsKept a w = some b ∧ M.IsKept a w = some b ∧ (b = true → okW w = true) := by
  have h1 := IsKept_S a w ha
  have h2 := IsKept_M a w ha
  have e : (decide (∀ j, 0 ≤ j → j < a.length → okT a j = true) && decide (a.length ≤ 1000) && okW w && decide (∀ j, 0 ≤ j → j < a.length → okT a j = true ∧ okC a w j = true)) = (decide (a.length ≤ 1000) && okW w && decide (∀ j, 0 ≤ j → j < a.length → okT a j = true ∧ okC a w j = true)) := by
    by_cases hc : ∀ j, 0 ≤ j → j < a.length → okT a j = true ∧ okC a w j = true
    · have hq : ∀ j, 0 ≤ j → j < a.length → okT a j = true := fun j h1 h2 => (hc j h1 h2).1
      rw [decide_eq_true hq, Bool.true_and]
    · rw [decide_eq_false hc, Bool.and_false, Bool.and_false]
  refine ⟨_, h1.trans (congrArg some e), h2, fun h => ?_⟩
  simp only [Bool.and_eq_true] at h
  exact h.1.2
theorem next_end (x : Int) : ∃ r : Int × Bool, (if decide (10000 < x) = true then some (0, false) else some (x, true)) = some r ∧ ((if decide (10000 < x) = true then some (0, false) else some (x, true)).bind fun x4 : Int × Bool => some (x4.1, x4.2)) = some r := by
  by_cases h : decide (10000 < x) = true
  · rw [if_pos h]; exact ⟨_, rfl, rfl⟩
  · rw [if_neg h]; exact ⟨_, rfl, rfl⟩

/-! how many calls a window has -/
def inW (x L : Int) (e : Int) : Bool := decide (x ≤ e) && decide (e - x < L)
theorem CallsIn_count (a : List Int) (x L : Int) (hn : a.length ≤ 1048576) (hx : 0 ≤ x) (ha : ∀ e ∈ a, e ≤ 1000000) : S.CallsIn a x L = some ((a.countP (inW x L) : Nat) : Int) := by
  unfold S.CallsIn
  obtain ⟨k, s', h1, rfl⟩ := loop_inv0 (fun k (s : Int) i => S.CallsIn_l1 a x L k s i) (fun i s => s = (((a.take i).countP (inW x L) : Nat) : Int)) a.length (by omega) 0 (by simp) (fun k i s hi hs => by
    subst hs
    have hm := ha _ (List.getElem_mem hi)
    have hc : (a.take i).countP (inW x L) ≤ 1048576 := Nat.le_trans List.countP_le_length (by rw [List.length_take]; omega)
    have ht : (a.take (i + 1)).countP (inW x L) = (a.take i).countP (inW x L) + if inW x L a[i] then 1 else 0 := by
      rw [List.take_add_one, List.getElem?_eq_getElem hi, List.countP_append]; simp [List.countP_cons]
    refine ⟨_, ?_, rfl⟩
    show S.CallsIn_l1 a x L (k + 1) _ (i : Int) = _
    rw [S.CallsIn_l1, if_pos (by simpa using hi), idx_nat a hi, ht]
    simp only [Option.bind_some, w64_succ (show i < 4611686018427387904 by omega)]
    rw [show inW x L a[i] = (decide (x ≤ a[i]) && decide (a[i] - x < L)) from rfl]
    by_cases g1 : x ≤ a[i]
    · rw [w64_sm (show -4611686018427387904 ≤ a[i] - x by omega) (by omega)]
      by_cases g2 : a[i] - x < L
      · simp only [g1, g2, hx, show 0 ≤ a[i] by omega, decide_true, if_true, Option.bind_some, Bool.true_and]
        rw [w64_sm (by omega) (by omega)]; rfl
      · simp [g1, g2, hx]
    · simp [g1, hx])
  rw [h1]
  show (S.CallsIn_l1 a x L (k + 1) _ _).bind _ = _
  rw [S.CallsIn_l1, if_neg (by simp), List.take_length]
  rfl
/-- times that a schedule gives: in order, and far enough apart -/
structure Sched (w : Int × Int) (a : List Int) : Prop where
  lo : ∀ i (h : i < a.length), 0 ≤ a[i] ∧ a[i] ≤ 10000
  mono : ∀ i j (hi : i < a.length) (hj : j < a.length), i ≤ j → a[i] ≤ a[j]
  gap : ∀ i (h : i + w.2.toNat < a.length), a[i]'(by omega) + w.1 ≤ a[i + w.2.toNat]
theorem Sched.count {w : Int × Int} {a : List Int} (h : Sched w a) (x : Int) : a.countP (inW x w.1) ≤ w.2.toNat := by
  -- the first that is late enough
  have key : ∀ p, p ≤ a.length → (∀ i (hi : i < p) (hl : i < a.length), a[i] < x) → (∀ hl : p < a.length, x ≤ a[p]) → a.countP (inW x w.1) ≤ w.2.toNat := by
    intro p hp h1 h2
    have e : a = a.take p ++ ((a.drop p).take w.2.toNat ++ (a.drop p).drop w.2.toNat) := by rw [List.take_append_drop, List.take_append_drop]
    rw [e, List.countP_append, List.countP_append]
    have z1 : (a.take p).countP (inW x w.1) = 0 := by
      rw [List.countP_eq_zero]
      intro y hy
      obtain ⟨i, hi, rfl⟩ := List.mem_iff_getElem.1 hy
      rw [List.length_take] at hi
      have := h1 i (by omega) (by omega)
      simp only [List.getElem_take, inW]
      simp; omega
    have z2 : ((a.drop p).drop w.2.toNat).countP (inW x w.1) = 0 := by
      rw [List.countP_eq_zero]
      intro y hy
      obtain ⟨i, hi, rfl⟩ := List.mem_iff_getElem.1 hy
      simp only [List.length_drop] at hi
      have g1 := h2 (by omega)
      have g2 := h.gap (p + i) (by omega)
      have g3 := h.mono p (p + i) (by omega) (by omega) (by omega)
      simp only [List.getElem_drop, inW]
      have g4 : a[p + (w.2.toNat + i)]'(by omega) = a[p + i + w.2.toNat]'(by omega) := by congr 1; omega
      rw [g4]
      simp; omega
    have z3 : ((a.drop p).take w.2.toNat).countP (inW x w.1) ≤ w.2.toNat := Nat.le_trans List.countP_le_length (by rw [List.length_take]; omega)
    omega
  have find : ∀ k, k ≤ a.length → (∃ p, p ≤ k ∧ (∀ i (hi : i < p) (hl : i < a.length), a[i] < x) ∧ (p < k → ∀ hl : p < a.length, x ≤ a[p])) := by
    intro k
    induction k with
    | zero => intro _; exact ⟨0, Nat.le_refl _, fun i hi => by omega, fun h => by omega⟩
    | succ k ih =>
      intro hk
      obtain ⟨p, h1, h2, h3⟩ := ih (by omega)
      by_cases hp : p < k
      · exact ⟨p, by omega, h2, fun _ => h3 hp⟩
      · obtain rfl : p = k := by omega
        by_cases hx : x ≤ a[p]
        · exact ⟨p, by omega, h2, fun _ _ => hx⟩
        · refine ⟨p + 1, Nat.le_refl _, fun i hi hl => ?_, fun h => by omega⟩
          by_cases e : i = p
          · subst e; omega
          · exact h2 i (by omega) hl
  obtain ⟨p, h1, h2, h3⟩ := find a.length (Nat.le_refl _)
  exact key p h1 h2 fun hl => h3 hl hl
open Classical in
theorem Sched.kept {w : Int × Int} {a : List Int} (h : Sched w a) (hw : okW w = true) (hn : a.length ≤ 1000) : S.IsKept a w = some true := by
  rw [IsKept_S a w (by omega)]
  have hT : ∀ j, 0 ≤ j → j < a.length → okT a j = true := fun j _ hj => by
    have h1 := h.lo j hj
    unfold okT
    have e : nth a j = a[j] := by simp [nth, hj]
    by_cases h0 : 0 < j
    · have h2 := h.mono (j - 1) j (by omega) hj (by omega)
      have e2 : nth a (j - 1) = a[j - 1]'(by omega) := by simp [nth, show j - 1 < a.length by omega]
      rw [e, e2]; simp [h0]; omega
    · rw [e]; simp [h0]; omega
  have hC : ∀ j, 0 ≤ j → j < a.length → okT a j = true ∧ okC a w j = true := fun j h0 hj => ⟨hT j h0 hj, by
    have h1 := h.lo j hj
    have e : nth a j = a[j] := by simp [nth, hj]
    unfold okC cnt
    rw [e, CallsIn_count a _ _ (by omega) h1.1 (fun y hy => by
      obtain ⟨i, hi, rfl⟩ := List.mem_iff_getElem.1 hy
      have := (h.lo i hi).2; omega)]
    have := h.count a[j]
    have hw' : 1 ≤ w.2 := by unfold okW at hw; simp at hw; omega
    simp; omega⟩
  rw [decide_eq_true hT, decide_eq_true hC, hw]
  simp; omega
theorem Sched.snoc {w : Int × Int} {a : List Int} {t : Int} (h : Sched w a) (h0 : 0 ≤ t) (h1 : t ≤ 10000) (hl : ∀ i (hi : i < a.length), a[i] ≤ t) (hg : ∀ (hi : w.2.toNat ≤ a.length) (hj : a.length - w.2.toNat < a.length), a[a.length - w.2.toNat] + w.1 ≤ t) (hw : 1 ≤ w.2) : Sched w (a ++ [t]) := by
  refine ⟨fun i hi => ?_, fun i j hi hj hij => ?_, fun i hi => ?_⟩
  · by_cases e : i < a.length
    · rw [List.getElem_append_left e]; exact h.lo i e
    · simp only [List.length_append, List.length_singleton] at hi
      rw [List.getElem_append_right (by omega)]; simp; omega
  · simp only [List.length_append, List.length_singleton] at hi hj
    by_cases e : j < a.length
    · rw [List.getElem_append_left e, List.getElem_append_left (by omega)]; exact h.mono i j (by omega) e hij
    · rw [List.getElem_append_right (as := a) (bs := [t]) (i := j) (by omega)]
      by_cases e2 : i < a.length
      · rw [List.getElem_append_left e2]; simp; exact hl i e2
      · rw [List.getElem_append_right (by omega)]; simp
  · simp only [List.length_append, List.length_singleton] at hi
    by_cases e : i + w.2.toNat < a.length
    · rw [List.getElem_append_left e, List.getElem_append_left (by omega)]; exact h.gap i e
    · rw [List.getElem_append_right (as := a) (bs := [t]) (i := i + w.2.toNat) (by omega), List.getElem_append_left (by omega)]
      simp
      have := hg (by omega) (by omega)
      have e3 : a[i]'(by omega) = a[a.length - w.2.toNat]'(by omega) := by congr 1; omega
      rw [e3]; exact this
theorem NextTime_kept (a : List Int) (w : Int × Int) (now : Int) (hk : S.IsKept a (w.1, w.2) = some true) (h0 : 0 ≤ now) (h1 : now ≤ 10000) : S.NextTime a (w.1, w.2) now = M.Window_next (w.1, w.2) a now := by
  unfold S.NextTime M.Window_next
  simp only [hk, inS, h0, h1, Option.bind_some, decide_true, Bool.and_true, Bool.not_true, Bool.false_eq_true, if_false]
/-- the next time: it is late enough -/
theorem next_spec (a : List Int) (w : Int × Int) (now : Int) (h : Sched w a) (hw : okW w = true) (hn : a.length ≤ 100) (h0 : 0 ≤ now) (h1 : now ≤ 10000) :
    M.Window_next (w.1, w.2) a now = some (0, false) ∨ ∃ t, M.Window_next (w.1, w.2) a now = some (t, true) ∧ 0 ≤ t ∧ t ≤ 10000 ∧ now ≤ t ∧ Sched w (a ++ [t]) := by
  have hw' : 1 ≤ w.1 ∧ w.1 ≤ 100 ∧ 1 ≤ w.2 ∧ w.2 ≤ 99 := by unfold okW at hw; simp at hw; omega
  unfold M.Window_next
  -- the last one
  have hA : ∃ t1, (if decide (0 < (List.length a : Int)) = true then (idx a (w64 ((List.length a : Int) - 1))).bind fun x2 => some (if x2 > now then x2 else now) else some now) = some t1 ∧ now ≤ t1 ∧ t1 ≤ 10000 ∧ ∀ i (hi : i < a.length), a[i] ≤ t1 := by
    by_cases hl : 0 < a.length
    · rw [if_pos (by simpa using hl), w64_pred hl (by omega), idx_nat a (show a.length - 1 < a.length by omega)]
      have hb := h.lo (a.length - 1) (by omega)
      refine ⟨_, rfl, by split <;> omega, by split <;> omega, fun i hi => ?_⟩
      have := h.mono i (a.length - 1) hi (by omega) (by omega)
      split <;> omega
    · rw [if_neg (by simpa using hl)]
      exact ⟨now, rfl, by omega, h1, fun i hi => by omega⟩
  obtain ⟨t1, e1, g1, g2, g3⟩ := hA
  rw [e1, Option.bind_some]
  have hB : ∃ t2, (if decide (w.2 ≤ (List.length a : Int)) = true then (idx a (w64 ((List.length a : Int) - w.2))).bind fun x4 => some (if w64 (x4 + w.1) > t1 then w64 (x4 + w.1) else t1) else some t1) = some t2 ∧ t1 ≤ t2 ∧ ∀ (hi : w.2.toNat ≤ a.length) (hj : a.length - w.2.toNat < a.length), a[a.length - w.2.toNat] + w.1 ≤ t2 := by
    by_cases hm : w.2 ≤ (List.length a : Int)
    · have e2 : w64 ((List.length a : Int) - w.2) = ((a.length - w.2.toNat : Nat) : Int) := by rw [w64_id (by omega) (by omega)]; omega
      rw [if_pos (by simpa using hm), e2, idx_nat a (show a.length - w.2.toNat < a.length by omega), Option.bind_some]
      have hb := h.lo (a.length - w.2.toNat) (by omega)
      have e3 : w64 (a[a.length - w.2.toNat]'(by omega) + w.1) = a[a.length - w.2.toNat]'(by omega) + w.1 := w64_sm (by omega) (by omega)
      rw [e3]
      exact ⟨_, rfl, by split <;> omega, fun _ _ => by split <;> omega⟩
    · rw [if_neg (by simpa using hm)]
      exact ⟨t1, rfl, by omega, fun hi _ => by omega⟩
  obtain ⟨t2, e2, g4, g5⟩ := hB
  rw [e2, Option.bind_some]
  by_cases hx : 10000 < t2
  · left; rw [if_pos (by simpa using hx)]
  · right
    rw [if_neg (by simpa using hx)]
    exact ⟨t2, rfl, by omega, by omega, by omega, h.snoc (by omega) (by omega) (fun i hi => by have := g3 i hi; omega) g5 hw'.2.2.1⟩
theorem Sched.nil (w : Int × Int) : Sched w [] := ⟨fun i h => by simp at h, fun i j h => by simp at h, fun i h => by simp at h⟩
end Go.Gx.Pw
