/- Plain laws: calls that are finished. Conditions: none. -/
import Derived.Test.YtnjjpmilcajmkaaPt
set_option linter.unusedVariables false
set_option linter.unusedSimpArgs false
namespace Go.Gx.Px
def finStep (s : Le × Ca) (fate : Int) : Le × Ca := ((tc s.1 s.2 fate).1, (tc s.1 s.2 fate).2.1)
def fin (x : Le) (c : Ca) (fs : List Int) : Le × Ca := (fs.take 100 ++ [0]).foldl finStep (x, c)
theorem fold_len (fs : List Int) : ∀ s : Le × Ca, s.1.1.length ≤ 1048576 → (fs.foldl finStep s).1.1.length ≤ 1048576 := by
  induction fs with
  | nil => intro s h; exact h
  | cons a fs ih => intro s h; exact ih _ (tc_len s.1 s.2 a h)
/-- a loop of tries -/
theorem fin_loop {R : Type} (f : Nat → Le × Ca → Int → R) (fs : List Int) (n : Nat) (hn : n ≤ fs.length) (hlim : n ≤ 4294967296) (s : Le × Ca) (h0 : s.1.1.length ≤ 1048576)
    (hs : ∀ k (s : Le × Ca) (i : Nat) (hi : i < n), s.1.1.length ≤ 1048576 → f (k + 1) s (i : Int) = f k (finStep s (fs[i]'(by omega))) ((i + 1 : Nat) : Int)) : ∃ k, f FUEL s 0 = f (k + 1) ((fs.take n).foldl finStep s) (n : Int) := by
  obtain ⟨k, s', h1, rfl⟩ := loop_inv0 f (fun i t => t = (fs.take i).foldl finStep s) n hlim s (by simp) (fun k i t hi ht => by
    refine ⟨_, hs k t i hi (by rw [ht]; exact fold_len _ s h0), ?_⟩
    rw [ht, List.take_add_one, List.getElem?_eq_getElem (by omega), List.foldl_append]; rfl)
  exact ⟨k, h1⟩
theorem eta_le (y : Le) : (y.1, y.2.1, y.2.2) = y := rfl
theorem eta_ca (y : Ca) : (y.1, y.2.1, y.2.2.1, y.2.2.2) = y := rfl
theorem Concat_eq (a b : List Int) (h : a.length + b.length ≤ 1048600) : Slices.Concat_Lint_int [a, b] = some (a ++ b) := by
  unfold Slices.Concat_Lint_int
  have hF : FUEL = 4611686018427387901 + 1 + 1 + 1 := FUEL_eq
  have e1 : Slices.Concat_Lint_int_l1 [a, b] FUEL 0 0 = some ((a.length + b.length : Nat) : Int) := by
    have w1 : w64 (0 + (List.length a : Int)) = (a.length : Int) := by rw [w64_sm (by omega) (by omega)]; omega
    have w2 : w64 ((a.length : Int) + (List.length b : Int)) = ((a.length + b.length : Nat) : Int) := by rw [w64_sm (by omega) (by omega)]; omega
    have w3 : w64 ((0 : Int) + 1) = 1 := by rw [w64_sm (by omega) (by omega)]; rfl
    have w4 : w64 ((1 : Int) + 1) = 2 := by rw [w64_sm (by omega) (by omega)]; rfl
    rw [hF, Slices.Concat_Lint_int_l1, if_pos (by simp), show idx [a, b] (0 : Int) = some a from rfl]
    simp only [Option.bind_some, w1, w3]
    rw [nn_if (by omega), Option.bind_some, Slices.Concat_Lint_int_l1, if_pos (by simp), show idx [a, b] (1 : Int) = some b from rfl]
    simp only [Option.bind_some, w2, w4]
    rw [nn_if (by omega), Option.bind_some, Slices.Concat_Lint_int_l1, if_neg (by simp)]
  have e2 : Slices.Concat_Lint_int_l2 [a, b] FUEL [] 0 = some (a ++ b) := by
    have w3 : w64 ((0 : Int) + 1) = 1 := by rw [w64_sm (by omega) (by omega)]; rfl
    have w4 : w64 ((1 : Int) + 1) = 2 := by rw [w64_sm (by omega) (by omega)]; rfl
    rw [hF, Slices.Concat_Lint_int_l2, if_pos (by simp), show idx [a, b] (0 : Int) = some a from rfl, Option.bind_some, app_eq _ _ (by simp; omega), Option.bind_some, w3,
      Slices.Concat_Lint_int_l2, if_pos (by simp), show idx [a, b] (1 : Int) = some b from rfl, Option.bind_some, app_eq _ _ (by simp; omega), Option.bind_some, w4, Slices.Concat_Lint_int_l2, if_neg (by simp)]
    simp
  rw [e1, Option.bind_some]
  unfold Slices.Grow_Lint_int grow0
  rw [if_pos ⟨by omega, by rw [LIM_eq]; omega⟩, Option.bind_some, e2]
  rfl
theorem FinishCall_S (x : Le) (c : Ca) (fs : List Int) (hl : x.1.length ≤ 1048576) (hf : fs.length ≤ 1048576) : S.FinishCall x c fs = some (fin x c fs) := by
  unfold S.FinishCall fin
  rw [eta_le, copyLedger_S x hl, Option.bind_some]
  have hlen : (fs.take 100).length = min 100 fs.length := List.length_take
  obtain ⟨k, h1⟩ := fin_loop (fun k (s : Le × Ca) i => S.FinishCall_l1 fs k s.1.1 s.1.2.1 s.1.2.2 s.2.1 s.2.2.1 s.2.2.2.1 s.2.2.2.2 i) fs (min 100 fs.length) (by omega) (by omega) (x, c) hl (fun k s i hi hs => by
    show S.FinishCall_l1 fs (k + 1) _ _ _ _ _ _ _ _ = _
    rw [S.FinishCall_l1, if_pos (show decide ((i : Int) < (List.length fs : Int)) = true by simp; omega), Option.bind_some, if_pos (by simp; omega), idx_nat fs (by omega), Option.bind_some, eta_le, eta_ca, TryCall_S _ _ _ hs, Option.bind_some, w64_succ (by omega)]
    rfl)
  have e3 : S.FinishCall_l1 fs FUEL x.1 x.2.1 x.2.2 c.1 c.2.1 c.2.2.1 c.2.2.2 0 = _ := h1
  rw [e3]
  have hfl := fold_len (fs.take (min 100 fs.length)) (x, c) hl
  generalize ht : (fs.take (min 100 fs.length)).foldl finStep (x, c) = t at hfl ⊢
  have e4 : (if decide (((min 100 fs.length : Nat) : Int) < (List.length fs : Int)) = true then some (decide (((min 100 fs.length : Nat) : Int) < 100)) else some false) = some false := by
    by_cases c1 : fs.length ≤ 100
    · rw [if_neg (by simp; omega)]
    · rw [if_pos (by simp; omega)]; congr 1; simp; omega
  rw [S.FinishCall_l1, e4]
  simp only [Option.bind_some, Bool.false_eq_true, if_false]
  rw [eta_le, eta_ca, TryCall_S _ _ _ hfl]
  simp only [Option.bind_some]
  have e5 : fs.take 100 = fs.take (min 100 fs.length) := by
    by_cases c1 : fs.length ≤ 100
    · rw [Nat.min_eq_right c1, List.take_of_length_le c1, List.take_length]
    · rw [Nat.min_eq_left (by omega)]
  rw [List.foldl_append, e5, ht]
  rfl
theorem FinishCall_M (x : Le) (c : Ca) (fs : List Int) (hl : x.1.length ≤ 1048576) (hf : fs.length ≤ 1048576) : M.FinishCall x c fs = some (fin x c fs) := by
  unfold M.FinishCall fin
  rw [eta_le, copyLedger_M x hl, Option.bind_some]
  have e0 : sub fs 0 (if (List.length fs : Int) < 100 then (List.length fs : Int) else 100) = some (fs.take 100) := by
    unfold sub
    by_cases c1 : (List.length fs : Int) < 100
    · rw [if_pos c1, if_pos (by omega)]
      simp only [Int.toNat_natCast, List.take_length]
      rw [List.take_of_length_le (by omega)]; rfl
    · rw [if_neg c1, if_pos (by omega)]; rfl
  have hlen : (fs.take 100).length ≤ 100 := by rw [List.length_take]; omega
  rw [e0, Option.bind_some, Concat_eq _ _ (by simp; omega), Option.bind_some]
  generalize hgs : fs.take 100 ++ [0] = gs
  have hgl : gs.length ≤ 101 := by rw [← hgs, List.length_append]; simp; omega
  obtain ⟨k, h1⟩ := fin_loop (fun k (s : Le × Ca) i => M.FinishCall_l1 gs k s.1.1 s.1.2.1 s.1.2.2 s.2.1 s.2.2.1 s.2.2.2.1 s.2.2.2.2 i) gs gs.length (by omega) (by omega) (x, c) hl (fun k s i hi hs => by
    show M.FinishCall_l1 gs (k + 1) _ _ _ _ _ _ _ _ = _
    rw [M.FinishCall_l1, if_pos (by simpa using hi), idx_nat gs hi, Option.bind_some, eta_le, eta_ca, TryCall_M _ _ _ hs, Option.bind_some, w64_succ (by omega)]
    rfl)
  have e3 : M.FinishCall_l1 gs FUEL x.1 x.2.1 x.2.2 c.1 c.2.1 c.2.2.1 c.2.2.2 0 = _ := h1
  rw [e3, M.FinishCall_l1, if_neg (by simp), List.take_length]
  rfl
theorem fin_len (x : Le) (c : Ca) (fs : List Int) (hl : x.1.length ≤ 1048576) : (fin x c fs).1.1.length ≤ 1048576 := fold_len _ _ hl
theorem same_FinishCall (x : Le) (c : Ca) (fs : List Int) (z1 : SZ.sz x ≤ 1048576) (_ : SZ.sz c ≤ 1048576) (z3 : SZ.sz fs ≤ 1048576) (_ : Rng.r x) (_ : Rng.r c) (_ : Rng.r fs) : ∃ r, S.FinishCall x c fs = some r ∧ M.FinishCall x c fs = some r ∧ SZ.sm r :=
  ⟨_, FinishCall_S x c fs (sm_le.1 (sm_of z1)) (sm_of z3).1, FinishCall_M x c fs (sm_le.1 (sm_of z1)) (sm_of z3).1, sm_le.2 (fin_len x c fs (sm_le.1 (sm_of z1))), trivial, trivial, trivial, trivial⟩
end Go.Gx.Px
