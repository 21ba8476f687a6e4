/- Plain laws: cursors read from their texts. Conditions: none. -/
import Derived.Test.YtbfmhlhjkbimmaaGreatDoorPcu
set_option linter.unusedVariables false
set_option linter.unusedSimpArgs false
namespace Go.Gx.Px
theorem slen (a : Li) : List.length (str a) = a.length := rfl
/-! a text cut at a byte -/
def cutL (c : UInt8) : Li → Li → List Li
  | p, [] => [p]
  | p, x :: r => if x = c then p :: cutL c [] r else cutL c (p ++ [x]) r
theorem cutL_none (c : UInt8) : ∀ (a p : Li), c ∉ a → cutL c p a = [p ++ a]
  | [], p, _ => by simp [cutL]
  | x :: a, p, h => by
    simp only [List.mem_cons, not_or] at h
    rw [cutL, if_neg (fun e => h.1 e.symm), cutL_none c a _ h.2]; simp
theorem cutL_some (c : UInt8) (b : Li) : ∀ (a p : Li), c ∉ a → cutL c p (a ++ c :: b) = (p ++ a) :: cutL c [] b
  | [], p, _ => by simp [cutL]
  | x :: a, p, h => by
    simp only [List.mem_cons, not_or] at h
    rw [List.cons_append, cutL, if_neg (fun e => h.1 e.symm), cutL_some c b a _ h.2]; simp
theorem cutL_len (c : UInt8) : ∀ (a p : Li), (cutL c p a).length ≤ a.length + 1
  | [], p => by simp [cutL]
  | x :: a, p => by
    rw [cutL]; split
    · have := cutL_len c a []; simp; omega
    · have := cutL_len c a (p ++ [x]); simp; omega
theorem cutL_part (c : UInt8) : ∀ (a p x : Li), x ∈ cutL c p a → x.length ≤ p.length + a.length
  | [], p, x, h => by simp [cutL] at h; subst h; simp
  | y :: a, p, x, h => by
    rw [cutL] at h; split at h
    · rcases List.mem_cons.1 h with rfl | h
      · simp
      · have := cutL_part c a [] x h; simp at this ⊢; omega
    · have := cutL_part c a _ x h; simp at this ⊢; omega
theorem sub_one (a : Li) {i : Nat} (h : i < a.length) : subS (str a) (i : Int) ((i + 1 : Nat) : Int) = some (str [a[i]]) := by
  unfold subS sub
  rw [if_pos ⟨by omega, by omega, by show ((i + 1 : Nat) : Int) ≤ ((a.length : Nat) : Int); omega⟩, Int.toNat_natCast, Int.toNat_natCast]
  show some (List.drop i (List.take (i + 1) a)) = some [a[i]]
  rw [List.take_add_one, List.getElem?_eq_getElem h, List.drop_append_of_le_length (by simp; omega), List.drop_of_length_le (by simp; omega)]
  rfl
theorem idx_str (a : Li) {i : Nat} (h : i < a.length) : idx (α := UInt8) (str a) (i : Int) = some a[i] := idx_nat a h
theorem cut_loop (a : Li) (c : UInt8) (hl : a.length ≤ 2000000) : ∀ (n K i : Nat) (xs : List Str) (p : Li), i + n = a.length → n < K → xs.length ≤ i → p.length ≤ i →
    ∃ ys q, S.l2Cut_l1 (str a) (c.toNat : Int) K xs (str p) (i : Int) = some (ys, str q) ∧ ys ++ [str q] = xs ++ (cutL c p (a.drop i)).map str ∧ ys.length ≤ a.length := by
  intro n
  induction n with
  | zero =>
    intro K i xs p h1 hK h2 h3
    obtain ⟨K, rfl⟩ : ∃ k, K = k + 1 := ⟨K - 1, by omega⟩
    refine ⟨xs, p, ?_, ?_, by omega⟩
    · rw [S.l2Cut_l1, if_neg (by show ¬ decide ((i : Int) < (a.length : Int)) = true; simp; omega)]
    · rw [List.drop_of_length_le (by omega)]; simp [cutL]
  | succ n ih =>
    intro K i xs p h1 hK h2 h3
    obtain ⟨K, rfl⟩ : ∃ k, K = k + 1 := ⟨K - 1, by omega⟩
    have hi : i < a.length := by omega
    rw [S.l2Cut_l1, if_pos (decide_eq_true (by have hia : i < List.length (str a) := hi; omega)), idx_str a hi, Option.bind_some, List.drop_eq_getElem_cons hi]
    by_cases hc : a[i] = c
    · rw [show cutL c p (a[i] :: a.drop (i + 1)) = p :: cutL c [] (a.drop (i + 1)) by rw [cutL, if_pos hc], if_pos (by rw [hc]; simp), app_eq _ _ (by simp; omega), Option.bind_some, Option.bind_some, w64_succ (by omega)]
      obtain ⟨ys, q, e1, e2, e3⟩ := ih K (i + 1) (xs ++ [str p]) [] (by omega) (by omega) (by simp; omega) (by simp)
      refine ⟨ys, q, e1, ?_, e3⟩
      rw [e2]; simp
    · have hc' : ¬ ((a[i].toNat : Int) = (c.toNat : Int)) := fun e => hc (UInt8.toNat_inj.1 (by omega))
      rw [show cutL c p (a[i] :: a.drop (i + 1)) = cutL c (p ++ [a[i]]) (a.drop (i + 1)) by rw [cutL, if_neg hc], if_neg (by simpa using hc'), w64_succ (by omega), sub_one a hi, Option.bind_some, cat_str _ _ (by simp; omega), Option.bind_some, Option.bind_some]
      exact ih K (i + 1) xs (p ++ [a[i]]) (by omega) (by omega) (by omega) (by simp; omega)
theorem cut_S (a : Li) (c : UInt8) (k : Int) (hk : k = (c.toNat : Int)) (hl : a.length ≤ 2000000) : S.l2Cut (str a) k = some ((cutL c [] a).map str) := by
  subst hk
  obtain ⟨ys, q, e1, e2, e3⟩ := cut_loop a c hl a.length FUEL 0 [] [] (by omega) (by rw [FUEL_eq]; omega) (by simp) (by simp)
  unfold S.l2Cut
  have e1' : S.l2Cut_l1 (str a) (c.toNat : Int) FUEL ([] : List Str) (str []) 0 = some (ys, str q) := e1
  rw [e1', Option.bind_some]
  show (app ys [str q]).bind _ = _
  rw [app_eq _ _ (by simp; omega), Option.bind_some, e2]; rfl
/-! digits -/
def isD (x : UInt8) : Bool := decide (48 ≤ x.toNat ∧ x.toNat ≤ 57)
def valD (v : Nat) (l : Li) : Nat := l.foldl (fun v x => v * 10 + (x.toNat - 48)) v
theorem dig_toNat {d : Nat} (h : d < 10) : (UInt8.ofNat (48 + d)).toNat = 48 + d := by rw [UInt8.toNat_ofNat']; omega
theorem dec_isD : ∀ (k n : Nat), n ≤ k → (Lib.decDigits n).all isD = true ∧ valD 0 (Lib.decDigits n) = n := by
  intro k
  induction k with
  | zero => intro n h; rw [Lib.decDigits, dif_pos (by omega), show n = 0 by omega]; decide
  | succ k ih =>
    intro n h
    rw [Lib.decDigits]
    split
    · rename_i h9
      constructor
      · simp [isD, dig_toNat h9]; omega
      · simp only [valD, List.foldl_cons, List.foldl_nil, dig_toNat h9]; omega
    · obtain ⟨h1, h2⟩ := ih (n / 10) (by omega)
      have h3 : n % 10 < 10 := by omega
      constructor
      · rw [List.all_append, h1]; simp [isD, dig_toNat h3]; omega
      · unfold valD at h2 ⊢
        rw [List.foldl_append, h2]; simp only [List.foldl_cons, List.foldl_nil, dig_toNat h3]; omega
theorem dec_pos (n : Nat) : 1 ≤ (Lib.decDigits n).length := by
  rw [Lib.decDigits]; split <;> simp
theorem dec_all {n : Nat} {x : UInt8} (h : x ∈ Lib.decDigits n) : 48 ≤ x.toNat ∧ x.toNat ≤ 57 := by
  have := List.all_eq_true.1 (dec_isD n n (Nat.le_refl _)).1 x h
  simpa [isD] using this
theorem valD_lt : ∀ (l : Li) (v m : Nat), l.all isD = true → v < 10 ^ m → valD v l < 10 ^ (m + l.length)
  | [], v, m, _, h => h
  | x :: l, v, m, h, hv => by
    simp only [List.all_cons, Bool.and_eq_true] at h
    have hx : 48 ≤ x.toNat ∧ x.toNat ≤ 57 := by simpa [isD] using h.1
    have := valD_lt l (v * 10 + (x.toNat - 48)) (m + 1) h.2 (by rw [Nat.pow_succ]; omega)
    rw [List.length_cons, show m + (l.length + 1) = m + 1 + l.length by omega]
    exact this
/-! a number read, by the program -/
theorem puint_ok : ∀ (l : Li) (v m : Nat), l.all isD = true → v < 10 ^ m → m + l.length ≤ 18 → Lib.parseUint10 v l = .ok (valD v l)
  | [], v, m, _, _, _ => rfl
  | x :: l, v, m, h, hv, hm => by
    simp only [List.all_cons, Bool.and_eq_true] at h
    have hx : 48 ≤ x.toNat ∧ x.toNat ≤ 57 := by simpa [isD] using h.1
    have h2 : v < 10 ^ 17 := Nat.lt_of_lt_of_le hv (Nat.pow_le_pow_right (by omega) (by simp at hm; omega))
    have h3 := puint_ok l (v * 10 + (x.toNat - 48)) (m + 1) h.2 (by rw [Nat.pow_succ]; omega) (by simp at hm ⊢; omega)
    rw [Lib.parseUint10, if_pos hx, if_neg (by omega), if_neg (by omega)]
    exact h3
theorem atoi_dec (n : Nat) (h : n < 1000000) : Lib.atoiAll (Lib.decDigits n) = .ok (n : Int) := by
  obtain ⟨h1, h2⟩ := dec_isD n n (Nat.le_refl _)
  have h3 := dec_len 5 n (by simpa using h)
  have h4 := puint_ok _ 0 0 h1 (by simp) (by omega)
  rw [h2] at h4
  unfold Lib.atoiAll
  have hall := fun x (hx : x ∈ Lib.decDigits n) => dec_all hx
  cases hd : Lib.decDigits n with
  | nil => have := dec_pos n; rw [hd] at this; simp at this
  | cons c r =>
    rw [hd] at h4 hall
    have hc := hall c (by simp)
    dsimp only
    rw [if_neg (by omega), Lib.parseMag, if_neg (by simp), h4]
    dsimp only
    rw [if_neg (by omega), if_neg (by omega), if_neg (by omega)]
def atoiR (s : Str) : Int × Bool := match Lib.atoiAll s with | .ok v => (v, false) | .range => (Lib.atoiSat s, true) | _ => (0, true)
theorem atoi_R (s : Str) (h : List.length s < 4294967281) : Strconv.Atoi s = some (atoiR s) := by
  unfold Strconv.Atoi atoiP
  rw [if_pos h]; rfl
theorem pint_M (s : Str) (h : List.length s < 4294967281) : ∃ r, M.ParseInt s = some r := by
  unfold M.ParseInt
  rw [atoi_R s h, Option.bind_some]
  generalize atoiR s = x
  obtain ⟨v, b⟩ := x
  cases b
  · simp only [Bool.false_eq_true, if_false, inM, Option.bind_some]
    cases h1 : inR v (-999999999) 999999999
    · exact ⟨_, rfl⟩
    · rw [inR_iff] at h1
      have hf : M.FormatInt v = some (str (Lib.itoa v)) := by
        unfold M.FormatInt Strconv.Itoa itoaF
        rw [if_pos ⟨by omega, by omega⟩]; rfl
      simp only [Option.bind_some, Bool.not_true, Bool.false_eq_true, if_false, hf]
      split <;> exact ⟨_, rfl⟩
  · exact ⟨_, rfl⟩
theorem pint_Md (n : Nat) (h : n < 1000000) : M.ParseInt (str (Lib.decDigits n)) = some ((n : Int), true) := by
  have hl := dec_len 5 n (by simpa using h)
  have e : atoiR (str (Lib.decDigits n)) = ((n : Int), false) := by
    unfold atoiR
    rw [show Lib.atoiAll (str (Lib.decDigits n)) = .ok (n : Int) from atoi_dec n h]
  unfold M.ParseInt
  rw [atoi_R (str (Lib.decDigits n)) (show (Lib.decDigits n).length < 4294967281 by omega), e, Option.bind_some]
  simp only [Bool.false_eq_true, if_false, inM, Option.bind_some]
  rw [show inR (n : Int) (-999999999) 999999999 = true from inR_iff.2 ⟨by omega, by omega⟩, fint_M n (by omega)]
  simp
/-! a number read, by the reference -/
theorem fi_neg : ∀ (K n : Nat) (t : Str), n < 4611686018427387904 → S.FormatInt_l1 K (-(n : Int)) t = S.FormatInt_l1 K (n : Int) t
  | 0, n, t, _ => rfl
  | K + 1, n, t, h => by
    rw [S.FormatInt_l1, S.FormatInt_l1]
    have e1 : (-(n : Int)).tmod 10 = -((n % 10 : Nat) : Int) := by rw [Int.neg_tmod, Int.tmod_eq_emod_of_nonneg (Int.natCast_nonneg n), Int.natCast_emod]; rfl
    have e2 : (n : Int).tmod 10 = ((n % 10 : Nat) : Int) := by rw [Int.tmod_eq_emod_of_nonneg (by omega)]; omega
    have e3 : w64 ((-(n : Int)).tdiv 10) = -((n / 10 : Nat) : Int) := by rw [Int.neg_tdiv, Int.tdiv_eq_ediv_of_nonneg (by omega), w64_sm (by omega) (by omega)]; omega
    have e4 : w64 ((n : Int).tdiv 10) = ((n / 10 : Nat) : Int) := by rw [Int.tdiv_eq_ediv_of_nonneg (by omega), w64_sm (by omega) (by omega)]; omega
    have e5 : (!decide (-(n : Int) = 0)) = !decide ((n : Int) = 0) := by
      by_cases hn : n = 0 <;> simp [hn]
    rw [e1, e2, e3, e4, e5]
    have e6 : (if decide (-((n % 10 : Nat) : Int) < 0) = true then some (w64 (0 - -((n % 10 : Nat) : Int))) else some (-((n % 10 : Nat) : Int))) = (if decide (((n % 10 : Nat) : Int) < 0) = true then some (w64 (0 - ((n % 10 : Nat) : Int))) else some ((n % 10 : Nat) : Int)) := by
      rw [if_neg (show ¬ decide (((n % 10 : Nat) : Int) < 0) = true by simp; omega)]
      by_cases hz : n % 10 = 0
      · rw [hz]; rfl
      · rw [if_pos (decide_eq_true (by omega)), w64_sm (by omega) (by omega)]; congr 1; omega
    rw [e6]
    simp only [fi_neg K (n / 10) _ (by omega)]
theorem fint_any (x : Int) (h0 : -1000000000 < x) (h1 : x < 1000000000) : ∃ r, S.FormatInt x = some (str r) := by
  rcases Int.lt_or_le x 0 with hx | hx
  · obtain ⟨n, rfl⟩ : ∃ n : Nat, x = -n := ⟨x.natAbs, by omega⟩
    have h2 := fi_loop 8 n FUEL [] (by omega) (by simp; omega) (by omega) (by rw [FUEL_eq]; omega) (by simp)
    rw [List.append_nil] at h2
    have h3 := dec_len 8 n (by simp; omega)
    refine ⟨[45] ++ Lib.decDigits n, ?_⟩
    unfold S.FormatInt
    rw [if_neg (by simp; omega), fi_neg _ _ _ (by omega), h2, Option.bind_some, if_pos (decide_eq_true hx), cat_str _ _ (by simp; omega)]
    rfl
  · obtain ⟨n, rfl⟩ : ∃ n : Nat, x = n := ⟨x.toNat, by omega⟩
    exact ⟨_, fint_S n (by omega)⟩
theorem w8_sub {x : UInt8} (h : 48 ≤ x.toNat) : w64 (w8 ((x.toNat : Int) - 48)) = ((x.toNat - 48 : Nat) : Int) := by
  have := x.toNat_lt
  rw [w8_mod, w64_sm (by omega) (by omega)]; omega
theorem pi_loop (a : Li) : ∀ (n K i v m : Nat), i + n = 11 → n < K → v < 10 ^ m → m ≤ i → ∃ v' m' : Nat, S.ParseInt_l1 (str a) K (v : Int) (m : Int) (i : Int) = some ((v' : Int), (m' : Int)) ∧ v' < 10 ^ m' ∧ m' ≤ 11 := by
  intro n
  induction n with
  | zero =>
    intro K i v m h1 hK h2 h3
    obtain ⟨K, rfl⟩ : ∃ k, K = k + 1 := ⟨K - 1, by omega⟩
    have hf : (if decide ((i : Int) < (List.length (str a) : Int)) = true then some (decide ((i : Int) < 11)) else some false) = some false := by
      rw [decide_eq_false (show ¬ (i : Int) < 11 by omega)]; split <;> rfl
    refine ⟨v, m, ?_, h2, by omega⟩
    rw [S.ParseInt_l1, hf, Option.bind_some, if_neg (by simp)]
  | succ n ih =>
    intro K i v m h1 hK h2 h3
    obtain ⟨K, rfl⟩ : ∃ k, K = k + 1 := ⟨K - 1, by omega⟩
    by_cases hi : i < a.length
    · rw [S.ParseInt_l1, if_pos (decide_eq_true (by have hia : i < List.length (str a) := hi; omega)), decide_eq_true (show (i : Int) < 11 by omega), Option.bind_some, if_pos rfl, idx_str a hi, Option.bind_some, Option.bind_some]
      have hv : v < 10 ^ 10 := Nat.lt_of_lt_of_le h2 (Nat.pow_le_pow_right (by omega) (by omega))
      by_cases hd : isD a[i]
      · have hd' : 48 ≤ a[i].toNat ∧ a[i].toNat ≤ 57 := by simpa [isD] using hd
        rw [if_pos (decide_eq_true (by omega)), decide_eq_true (by omega), Option.bind_some, if_pos rfl, Option.bind_some, w8_sub hd'.1, w64_succ (by omega), w64_succ (by omega), w64_sm (n := (v : Int) * 10) (by omega) (by omega), w64_sm (by omega) (by omega)]
        dsimp only
        rw [show (v : Int) * 10 + ((a[i].toNat - 48 : Nat) : Int) = ((v * 10 + (a[i].toNat - 48) : Nat) : Int) by omega]
        exact ih K (i + 1) _ (m + 1) (by omega) (by omega) (by rw [Nat.pow_succ]; omega) (by omega)
      · have e : ((if decide (48 ≤ (a[i].toNat : Int)) = true then some (decide ((a[i].toNat : Int) ≤ 57)) else some false)) = some false := by
          have hd' : ¬ (48 ≤ a[i].toNat ∧ a[i].toNat ≤ 57) := by simpa [isD] using hd
          by_cases h4 : 48 ≤ a[i].toNat
          · rw [if_pos (decide_eq_true (by omega)), decide_eq_false (by omega)]
          · rw [if_neg (by simp; omega)]
        rw [e, Option.bind_some, if_neg (by simp), Option.bind_some, w64_succ (by omega)]
        exact ih K (i + 1) v m (by omega) (by omega) h2 (by omega)
    · refine ⟨v, m, ?_, h2, by omega⟩
      rw [S.ParseInt_l1, if_neg (by show ¬ decide ((i : Int) < (a.length : Int)) = true; simp; omega), Option.bind_some, if_neg (by simp)]
theorem pi_all (a : Li) (ha : a.all isD = true) (hl : a.length ≤ 9) : ∀ (n K i v : Nat), i + n = a.length → n < K → v < 10 ^ i → S.ParseInt_l1 (str a) K (v : Int) (i : Int) (i : Int) = some ((valD v (a.drop i) : Int), (a.length : Int)) := by
  intro n
  induction n with
  | zero =>
    intro K i v h1 hK h2
    obtain ⟨K, rfl⟩ : ∃ k, K = k + 1 := ⟨K - 1, by omega⟩
    rw [S.ParseInt_l1, if_neg (by show ¬ decide ((i : Int) < (a.length : Int)) = true; simp; omega), Option.bind_some, if_neg (by simp), List.drop_of_length_le (by omega), show (i : Int) = (a.length : Int) by omega]
    rfl
  | succ n ih =>
    intro K i v h1 hK h2
    obtain ⟨K, rfl⟩ : ∃ k, K = k + 1 := ⟨K - 1, by omega⟩
    have hi : i < a.length := by omega
    have hd : 48 ≤ a[i].toNat ∧ a[i].toNat ≤ 57 := by simpa [isD] using List.all_eq_true.1 ha _ (List.getElem_mem hi)
    have hv : v < 10 ^ 10 := Nat.lt_of_lt_of_le h2 (Nat.pow_le_pow_right (by omega) (by omega))
    rw [S.ParseInt_l1, if_pos (decide_eq_true (by have hia : i < List.length (str a) := hi; omega)), decide_eq_true (show (i : Int) < 11 by omega), Option.bind_some, if_pos rfl, idx_str a hi, Option.bind_some, Option.bind_some, if_pos (decide_eq_true (by omega)), decide_eq_true (by omega), Option.bind_some, if_pos rfl, Option.bind_some, w8_sub hd.1, w64_succ (by omega), w64_sm (n := (v : Int) * 10) (by omega) (by omega), w64_sm (by omega) (by omega)]
    dsimp only
    rw [show (v : Int) * 10 + ((a[i].toNat - 48 : Nat) : Int) = ((v * 10 + (a[i].toNat - 48) : Nat) : Int) by omega, Option.bind_some, ih K (i + 1) _ (by omega) (by omega) (by rw [Nat.pow_succ]; omega), List.drop_eq_getElem_cons hi]
    rfl
theorem pint_S (a : Li) : ∃ r, S.ParseInt (str a) = some r := by
  unfold S.ParseInt
  obtain ⟨v, m, e, hv, hm⟩ := pi_loop a 11 FUEL 0 0 0 (by omega) (by rw [FUEL_eq]; omega) (by simp) (by omega)
  have e' : S.ParseInt_l1 (str a) FUEL 0 0 0 = some ((v : Int), (m : Int)) := e
  rw [e', Option.bind_some]
  dsimp only
  have hx : ∃ b, (if decide (0 < (List.length (str a) : Int)) = true then (idx (α := UInt8) (str a) 0).bind fun x14 => some (decide ((UInt8.toNat x14 : Int) = 45)) else some false) = some b := by
    by_cases h0 : 0 < List.length (str a)
    · rw [if_pos (decide_eq_true (by omega)), show idx (α := UInt8) (str a) 0 = some (a[0]'h0) from idx_str a h0]; exact ⟨_, rfl⟩
    · rw [if_neg (by simpa using h0)]; exact ⟨_, rfl⟩
  obtain ⟨b, hb⟩ := hx
  have hy : ∃ y : Int, (if b = true then some (w64 (0 - (v : Int))) else some (v : Int)) = some y ∧ (m ≤ 9 → -1000000000 < y ∧ y < 1000000000) := by
    have h9 : m ≤ 9 → v < 10 ^ 9 := fun h => Nat.lt_of_lt_of_le hv (Nat.pow_le_pow_right (by omega) h)
    have h11 : v < 10 ^ 11 := Nat.lt_of_lt_of_le hv (Nat.pow_le_pow_right (by omega) hm)
    cases b
    · exact ⟨_, rfl, fun h => by have := h9 h; omega⟩
    · exact ⟨_, rfl, fun h => by have := h9 h; rw [w64_sm (by omega) (by omega)]; omega⟩
  obtain ⟨y, hy, hr⟩ := hy
  rw [hb, Option.bind_some, hy, Option.bind_some]
  by_cases h9 : m ≤ 9
  · obtain ⟨q, hq⟩ := fint_any y (hr h9).1 (hr h9).2
    rw [if_neg (by simp; omega), hq]
    split
    · exact ⟨_, rfl⟩
    · rw [Option.bind_some, Option.bind_some]; split <;> exact ⟨_, rfl⟩
  · rw [if_pos (decide_eq_true (by omega))]; exact ⟨_, rfl⟩
theorem num_S (a : Li) : ∃ n, S.l2Num (str a) = some n := by
  obtain ⟨r, e⟩ := pint_S a
  unfold S.l2Num
  rw [e, Option.bind_some]; split <;> exact ⟨_, rfl⟩
theorem num_Sd (n : Nat) (h : n < 1000000) : S.l2Num (str (Lib.decDigits n)) = some (n : Int) := by
  have hl := dec_len 5 n (by simpa using h)
  have h1 := dec_pos n
  obtain ⟨h2, h3⟩ := dec_isD n n (Nat.le_refl _)
  have e := pi_all (Lib.decDigits n) h2 (by omega) (Lib.decDigits n).length FUEL 0 0 (by omega) (by rw [FUEL_eq]; omega) (by simp)
  rw [List.drop_zero, h3] at e
  have e' : S.ParseInt_l1 (str (Lib.decDigits n)) FUEL 0 0 0 = some ((n : Int), ((Lib.decDigits n).length : Int)) := e
  have h0 : 0 < (Lib.decDigits n).length := h1
  have hc := dec_all (List.getElem_mem h0)
  unfold S.l2Num S.ParseInt
  rw [e', Option.bind_some]
  dsimp only
  rw [if_pos (decide_eq_true (show (0 : Int) < (List.length (str (Lib.decDigits n)) : Int) by have := slen (Lib.decDigits n); omega)), show idx (α := UInt8) (str (Lib.decDigits n)) 0 = some ((Lib.decDigits n)[0]'h0) from idx_str _ h0, Option.bind_some, decide_eq_false (by omega), Option.bind_some, if_neg (by simp), Option.bind_some, if_neg (by simp; omega), if_neg (show ¬ decide ((10 : Int) < (List.length (str (Lib.decDigits n)) : Int)) = true by have := slen (Lib.decDigits n); simp; omega), fint_S n (by omega), Option.bind_some]
  simp
/-! an access read, by the reference -/
def numG (a : Li) : Int := (S.l2Num (str a)).getD 0
theorem numG_eq (a : Li) : S.l2Num (str a) = some (numG a) := by
  obtain ⟨n, e⟩ := num_S a
  unfold numG; rw [e]; rfl
theorem acc2_loop (xs : List Li) (x14 : Int) (hl : xs.length ≤ 2000000) : ∀ (n K i : Nat) (ys : List Int), i + n = xs.length → n < K → ys.length ≤ i → S.l24Access_l2 (xs.map str) K x14 ys (i : Int) = some (x14, ys ++ (xs.drop i).map numG) := by
  intro n
  induction n with
  | zero =>
    intro K i ys h1 hK h2
    obtain ⟨K, rfl⟩ : ∃ k, K = k + 1 := ⟨K - 1, by omega⟩
    rw [S.l24Access_l2, if_neg (by simp; omega), List.drop_of_length_le (by omega)]; simp
  | succ n ih =>
    intro K i ys h1 hK h2
    obtain ⟨K, rfl⟩ : ∃ k, K = k + 1 := ⟨K - 1, by omega⟩
    have hi : i < xs.length := by omega
    have hi' : i < (xs.map str).length := by simpa using hi
    rw [S.l24Access_l2, if_pos (decide_eq_true (by omega)), idx_nat _ hi', Option.bind_some, List.getElem_map, numG_eq, Option.bind_some, app_eq _ _ (by simp; omega), Option.bind_some, w64_succ (by omega), ih K (i + 1) _ (by omega) (by omega) (by simp; omega), List.drop_eq_getElem_cons hi, List.map_cons, List.append_assoc]
    rfl
theorem sub_mid (a : Li) (i j : Nat) (h : i ≤ j) (h2 : j ≤ a.length) : subS (str a) (i : Int) (j : Int) = some (str ((a.take j).drop i)) := by
  unfold subS sub
  rw [if_pos ⟨by omega, by omega, by show ((j : Nat) : Int) ≤ ((a.length : Nat) : Int); omega⟩, Int.toNat_natCast, Int.toNat_natCast]; rfl
/-- what the reference makes of a text that begins with m, has its bracket at i and ends with a bracket -/
def accG (a : Li) (i : Nat) : Fa :=
  (numG ((a.take i).drop 1), if (a.take (a.length - 1)).drop (i + 1) = [] then [] else (cutL 44 [] ((a.take (a.length - 1)).drop (i + 1))).map numG)
theorem acc_hit (a : Li) (hl : a.length ≤ 1500000) (K i : Nat) (x1 : Int) (x2 : List Int) (h0 : 1 ≤ i) (hi : i + 1 < a.length) (hb : a[i] = 40) (he : a[a.length - 1] = 41) (hm : a[0] = 109) :
    S.l24Access_l1 (str a) (K + 1) x1 x2 (i : Int) = some (.inr (accG a i)) := by
  have hw : w64 ((List.length (str a) : Int) - 1) = ((a.length - 1 : Nat) : Int) := by
    show w64 (((a.length : Nat) : Int) - 1) = _
    rw [w64_sm (by omega) (by omega)]; omega
  rw [S.l24Access_l1, if_pos (decide_eq_true (show (i : Int) < (List.length (str a) : Int) by have := slen a; omega)), hw, idx_str a (by omega), idx_str a (show a.length - 1 < a.length by omega), show idx (α := UInt8) (str a) 0 = some (a[0]'(by omega)) from idx_str a (i := 0) (by omega), hb, he, hm, Option.bind_some, if_pos (by decide), Option.bind_some, if_pos (by decide), Option.bind_some, decide_eq_true (by decide), Option.bind_some, if_pos rfl]
  rw [show subS (str a) 1 (i : Int) = some (str ((a.take i).drop 1)) from sub_mid a 1 i h0 (by omega), Option.bind_some, numG_eq, Option.bind_some, w64_succ (by omega), sub_mid a (i + 1) (a.length - 1) (by omega) (by omega), Option.bind_some]
  unfold accG
  by_cases hn : (a.take (a.length - 1)).drop (i + 1) = []
  · rw [if_pos hn, hn, if_pos (by decide)]
  · have hn' : ¬ decide (str ((a.take (a.length - 1)).drop (i + 1)) = str []) = true := fun e => hn (of_decide_eq_true e)
    rw [if_neg hn, if_neg hn', cut_S _ 44 44 rfl (by simp; omega), Option.bind_some]
    have hc := cutL_len 44 ((a.take (a.length - 1)).drop (i + 1)) []
    have e := acc2_loop (cutL 44 [] ((a.take (a.length - 1)).drop (i + 1))) (numG ((a.take i).drop 1)) (by simp at hc; omega) _ FUEL 0 [] (by rw [Nat.zero_add]) (by simp at hc; rw [FUEL_eq]; omega) (by simp)
    have e' : S.l24Access_l2 ((cutL 44 [] ((a.take (a.length - 1)).drop (i + 1))).map str) FUEL (numG ((a.take i).drop 1)) [] 0 = some (numG ((a.take i).drop 1), (cutL 44 [] ((a.take (a.length - 1)).drop (i + 1))).map numG) := e
    rw [e', Option.bind_some]
theorem acc_miss (a : Li) (K i : Nat) (x1 : Int) (x2 : List Int) (hl : a.length ≤ 1500000) (hi : i < a.length) (h : ¬ (a[i] = 40 ∧ a[a.length - 1]'(by omega) = 41 ∧ a[0]'(by omega) = 109)) :
    S.l24Access_l1 (str a) (K + 1) x1 x2 (i : Int) = S.l24Access_l1 (str a) K x1 x2 ((i + 1 : Nat) : Int) := by
  have hw : w64 ((List.length (str a) : Int) - 1) = ((a.length - 1 : Nat) : Int) := by
    show w64 (((a.length : Nat) : Int) - 1) = _
    rw [w64_sm (by omega) (by omega)]; omega
  have c40 : ∀ x : UInt8, decide ((x.toNat : Int) = 40) = decide (x = 40) := fun x => by
    rw [decide_eq_decide, ← UInt8.toNat_inj]; show (x.toNat : Int) = 40 ↔ x.toNat = 40; omega
  have c41 : ∀ x : UInt8, decide ((x.toNat : Int) = 41) = decide (x = 41) := fun x => by
    rw [decide_eq_decide, ← UInt8.toNat_inj]; show (x.toNat : Int) = 41 ↔ x.toNat = 41; omega
  have c109 : ∀ x : UInt8, decide ((x.toNat : Int) = 109) = decide (x = 109) := fun x => by
    rw [decide_eq_decide, ← UInt8.toNat_inj]; show (x.toNat : Int) = 109 ↔ x.toNat = 109; omega
  rw [S.l24Access_l1, if_pos (decide_eq_true (show (i : Int) < (List.length (str a) : Int) by have := slen a; omega)), hw, idx_str a hi, idx_str a (show a.length - 1 < a.length by omega), show idx (α := UInt8) (str a) 0 = some (a[0]'(by omega)) from idx_str a (i := 0) (by omega), w64_succ (by omega), Option.bind_some, Option.bind_some, Option.bind_some, c40, c41, c109]
  have e : (if decide (a[i] = 40) = true then (if decide (a[a.length - 1]'(by omega) = 41) = true then some (decide (a[0]'(by omega) = 109)) else some false) else some false) = some false := by
    by_cases g1 : a[i] = 40
    · by_cases g2 : a[a.length - 1]'(by omega) = 41
      · have g3 : ¬ a[0]'(by omega) = 109 := fun g3 => h ⟨g1, g2, g3⟩
        rw [if_pos (decide_eq_true g1), if_pos (decide_eq_true g2), decide_eq_false g3]
      · rw [if_pos (decide_eq_true g1), if_neg (by simpa using g2)]
    · rw [if_neg (by simpa using g1)]
  rw [e, Option.bind_some, if_neg (by simp)]
theorem accG_len (a : Li) (i : Nat) : (accG a i).2.length ≤ a.length + 1 := by
  unfold accG; dsimp only
  split
  · simp
  · have := cutL_len 44 ((a.take (a.length - 1)).drop (i + 1)) []
    rw [List.length_map]
    refine Nat.le_trans this ?_
    simp; omega
theorem acc1_loop (a : Li) (hl : a.length ≤ 1500000) : ∀ (n K i : Nat), i + n = a.length → n < K →
    S.l24Access_l1 (str a) K 0 [] (i : Int) = some (.inl (0, [])) ∨ ∃ r : Fa, S.l24Access_l1 (str a) K 0 [] (i : Int) = some (.inr r) ∧ r.2.length ≤ a.length + 1 := by
  intro n
  induction n with
  | zero =>
    intro K i h1 hK
    obtain ⟨K, rfl⟩ : ∃ k, K = k + 1 := ⟨K - 1, by omega⟩
    left
    rw [S.l24Access_l1, if_neg (by show ¬ decide ((i : Int) < (a.length : Int)) = true; simp; omega)]
  | succ n ih =>
    intro K i h1 hK
    obtain ⟨K, rfl⟩ : ∃ k, K = k + 1 := ⟨K - 1, by omega⟩
    have hi : i < a.length := by omega
    by_cases h : a[i] = 40 ∧ a[a.length - 1]'(by omega) = 41 ∧ a[0]'(by omega) = 109
    · have h0 : 1 ≤ i := by
        rcases Nat.eq_zero_or_pos i with rfl | h0
        · exact absurd (h.1.symm.trans h.2.2) (by decide)
        · exact h0
      have h2 : i + 1 < a.length := by
        rcases Nat.lt_or_ge (i + 1) a.length with h2 | h2
        · exact h2
        · have e : i = a.length - 1 := by omega
          subst e
          exact absurd (h.1.symm.trans h.2.1) (by decide)
      exact .inr ⟨_, acc_hit a hl K i 0 [] h0 h2 h.1 h.2.1 h.2.2, accG_len a i⟩
    · rw [acc_miss a K i 0 [] hl hi h]
      exact ih K (i + 1) (by omega) (by omega)
theorem acc_S2 (a : Li) (hl : a.length ≤ 1500000) : ∃ r : Fa, S.l24Access (str a) = some r ∧ r.2.length ≤ a.length + 1 := by
  unfold S.l24Access
  rcases acc1_loop a hl a.length FUEL 0 (by omega) (by rw [FUEL_eq]; omega) with e | ⟨r, e, h⟩
  · have e' : S.l24Access_l1 (str a) FUEL 0 [] 0 = some (.inl (0, [])) := e
    rw [e', Option.bind_some]; exact ⟨_, rfl, by simp⟩
  · have e' : S.l24Access_l1 (str a) FUEL 0 [] 0 = some (.inr r) := e
    rw [e', Option.bind_some]; exact ⟨_, rfl, h⟩
/-! cutting at one byte, by the library -/
theorem first_of {c : UInt8} : ∀ {a : Li}, c ∈ a → ∃ x b, a = x ++ c :: b ∧ c ∉ x
  | y :: a, h => by
    by_cases e : c = y
    · subst e; exact ⟨[], a, rfl, by simp⟩
    · obtain ⟨x, b, rfl, hx⟩ := first_of ((List.mem_cons.1 h).resolve_left e)
      exact ⟨y :: x, b, rfl, by simp [hx, e]⟩
theorem iB_none (c : UInt8) : ∀ a : Li, c ∉ a → Lib.indexByte a c = -1
  | [], _ => rfl
  | x :: a, h => by
    simp only [List.mem_cons, not_or] at h
    rw [Lib.indexByte, if_neg (by simpa using fun e => h.1 e.symm), iB_none c a h.2]; rfl
theorem iB_some (c : UInt8) (b : Li) : ∀ a : Li, c ∉ a → Lib.indexByte (a ++ c :: b) c = (a.length : Int)
  | [], _ => by rw [List.nil_append, Lib.indexByte, if_pos (by simp)]; rfl
  | x :: a, h => by
    simp only [List.mem_cons, not_or] at h
    rw [List.cons_append, Lib.indexByte, if_neg (by simpa using fun e => h.1 e.symm), iB_some c b a h.2, if_neg (by simp), List.length_cons]; omega
theorem cut_at (c : UInt8) (a b : Li) (h : c ∉ a) : Lib.cut (a ++ c :: b) [c] = (a, b, true) := by
  have e : Lib.index (a ++ c :: b) [c] = (a.length : Int) := by rw [Lib.index_one]; exact iB_some c b a h
  unfold Lib.cut
  rw [e, if_pos (by omega), Int.toNat_natCast, List.take_left' rfl]
  congr 2
  rw [show a ++ c :: b = (a ++ [c]) ++ b by simp]
  exact List.drop_left' (by simp)
theorem cut_le (s t : Li) : (Lib.cut s t).1.length ≤ s.length ∧ (Lib.cut s t).2.1.length ≤ s.length := by
  unfold Lib.cut
  split
  · exact ⟨by simp; omega, by simp⟩
  · exact ⟨Nat.le_refl _, by simp⟩
theorem split_at (c : UInt8) : ∀ (n : Nat) (a : Li), a.length ≤ n → Lib.splitK [c] 0 (Lib.count a [c]) a = cutL c [] a := by
  intro n
  induction n with
  | zero =>
    intro a h
    obtain rfl := List.length_eq_zero_iff.1 (Nat.le_zero.1 h)
    rfl
  | succ n ih =>
    intro a h
    by_cases hc : c ∈ a
    · obtain ⟨x, b, rfl, hx⟩ := first_of hc
      have e : Lib.index (x ++ c :: b) [c] = (x.length : Int) := by rw [Lib.index_one]; exact iB_some c b x hx
      have hd : (x ++ c :: b).drop (x.length + 1) = b := by
        rw [show x ++ c :: b = (x ++ [c]) ++ b by simp]
        exact List.drop_left' (by simp)
      rw [Lib.count_hit (by simp) e, show ([c] : Li).length = 1 from rfl, hd, Nat.add_comm 1, Lib.splitK, e, if_neg (by simp), Int.toNat_natCast, Nat.add_zero, List.take_left' rfl, show ([c] : Li).length = 1 from rfl, hd, ih b (by simp at h; omega), cutL_some c b x [] hx, List.nil_append]
    · have e : Lib.index a [c] = -1 := by rw [Lib.index_one]; exact iB_none c a hc
      rw [Lib.count_miss e, cutL_none c a [] hc]; rfl
/-! calls read, by the program -/
theorem nocut {x : UInt8} {l : List Int} (hv : ∀ y ∈ l, 0 ≤ y ∧ y ≤ 9) (hx : x.toNat < 48 ∨ 57 < x.toNat) : ∀ y ∈ l, x ∉ digL y := by
  intro y hy hm
  obtain ⟨h0, h1⟩ := hv y hy
  unfold digL at hm
  obtain rfl := List.mem_singleton.1 hm
  rw [dig_toNat (by omega)] at hx
  omega
theorem dig_not {x : UInt8} {y : Int} (h0 : 0 ≤ y) (h1 : y ≤ 9) (hx : x.toNat < 48 ∨ 57 < x.toNat) : x ∉ digL y :=
  nocut (l := [y]) (by simpa using ⟨h0, h1⟩) hx y (by simp)
theorem dec_not {x : UInt8} {n : Nat} (hx : x.toNat < 48 ∨ 57 < x.toNat) : x ∉ Lib.decDigits n := fun h => by
  have := dec_all h
  omega
theorem cutJ : ∀ (r : List Int) (p a : Li), (∀ y ∈ r, 0 ≤ y ∧ y ≤ 9) → (44 : UInt8) ∉ a → cutL 44 p (a ++ Lib.joinTail [44] (r.map digL)) = (p ++ a) :: r.map digL
  | [], p, a, _, h => by
    rw [show a ++ Lib.joinTail [44] (([] : List Int).map digL) = a from List.append_nil a, cutL_none _ _ _ h]; rfl
  | x :: r, p, a, hv, h => by
    have e : Lib.joinTail [44] ((x :: r).map digL) = 44 :: (digL x ++ Lib.joinTail [44] (r.map digL)) := by simp [Lib.joinTail]
    have hx := hv x (by simp)
    rw [e, cutL_some 44 _ a p h, cutJ r [] (digL x) (fun y hy => hv y (by simp [hy])) (dig_not hx.1 hx.2 (by decide))]
    rfl
theorem join_cut {l : List Int} (hn : l ≠ []) (hv : ∀ y ∈ l, 0 ≤ y ∧ y ≤ 9) : cutL 44 [] (Lib.join (l.map digL) [44]) = l.map digL := by
  cases l with
  | nil => exact absurd rfl hn
  | cons x r =>
    have hx := hv x (by simp)
    rw [List.map_cons, Lib.join_cons, cutJ r [] (digL x) (fun y hy => hv y (by simp [hy])) (dig_not hx.1 hx.2 (by decide))]; rfl
theorem join_not {x : UInt8} {l : List Int} (hv : ∀ y ∈ l, 0 ≤ y ∧ y ≤ 9) (hx : x.toNat < 48 ∨ 57 < x.toNat) (h44 : x ≠ 44) : x ∉ Lib.join (l.map digL) [44] := by
  cases l with
  | nil => simp [Lib.join_nil]
  | cons y r =>
    rw [List.map_cons, Lib.join_cons]
    intro h
    rcases List.mem_append.1 h with h | h
    · exact nocut hv hx y (by simp) h
    · unfold Lib.joinTail at h
      obtain ⟨z, hz, hm⟩ := List.mem_flatten.1 h
      obtain ⟨u, hu, rfl⟩ := List.mem_map.1 hz
      obtain ⟨v, hv', rfl⟩ := List.mem_map.1 hu
      rcases List.mem_append.1 hm with h | h
      · exact h44 (List.mem_singleton.1 h)
      · exact nocut hv hx v (by simp [hv']) h
theorem join_ne {l : List Int} (hn : l ≠ []) : Lib.join (l.map digL) [44] ≠ [] := by
  cases l with
  | nil => exact absurd rfl hn
  | cons y r =>
    rw [List.map_cons, Lib.join_cons]
    unfold digL; simp
def inn (f : Fa) : Li := Lib.join (f.2.map digL) [44]
theorem accT_eq {f : Fa} (h : okA f = true) : accT f = 109 :: (digL f.1 ++ 40 :: (inn f ++ [41])) := by
  unfold accT inn; rw [if_pos h]; simp
theorem okA_iff {f : Fa} (h : okA f = true) : (0 ≤ f.1 ∧ f.1 ≤ 4) ∧ f.2.length ≤ 3 ∧ ∀ y ∈ f.2, 0 ≤ y ∧ y ≤ 9 := by
  have h3 := okA_len h
  unfold okA at h
  simp only [Bool.and_eq_true, inR_iff] at h
  exact ⟨h.1, h3, all_in h.2.2⟩
def numM (a : Li) : Int × Bool := (M.ParseInt (str a)).getD (0, false)
theorem numM_eq (a : Li) (h : a.length ≤ 2000000) : M.ParseInt (str a) = some (numM a) := by
  obtain ⟨n, e⟩ := pint_M (str a) (show a.length < 4294967281 by omega)
  unfold numM; rw [e]; rfl
theorem ints_loopM (xs : List Li) (hl : xs.length ≤ 2000000) (hs : ∀ x ∈ xs, x.length ≤ 2000000) : ∀ (n K i : Nat) (ys : List Int), i + n = xs.length → n < K → ys.length ≤ i →
    (∃ zs, M.readInts_l1 (xs.map str) K ys (i : Int) = some (.inl zs) ∧ zs.length ≤ xs.length) ∨ M.readInts_l1 (xs.map str) K ys (i : Int) = some (.inr ([], false)) := by
  intro n
  induction n with
  | zero =>
    intro K i ys h1 hK h2
    obtain ⟨K, rfl⟩ : ∃ k, K = k + 1 := ⟨K - 1, by omega⟩
    left
    exact ⟨ys, by rw [M.readInts_l1, if_neg (by simp; omega)], by omega⟩
  | succ n ih =>
    intro K i ys h1 hK h2
    obtain ⟨K, rfl⟩ : ∃ k, K = k + 1 := ⟨K - 1, by omega⟩
    have hi : i < xs.length := by omega
    have hi' : i < (xs.map str).length := by simpa using hi
    rw [M.readInts_l1, if_pos (decide_eq_true (by omega)), idx_nat _ hi', Option.bind_some, List.getElem_map, numM_eq _ (hs _ (List.getElem_mem hi)), Option.bind_some]
    cases (numM xs[i]).2
    · right; rfl
    · rw [if_neg (by simp), app_eq _ _ (by simp; omega), Option.bind_some, w64_succ (by omega)]
      exact ih K (i + 1) _ (by omega) (by omega) (by simp; omega)
theorem readInts_M (xs : List Li) (hl : xs.length ≤ 2000000) (hs : ∀ x ∈ xs, x.length ≤ 2000000) : ∃ r : List Int × Bool, M.readInts (xs.map str) = some r ∧ r.1.length ≤ xs.length := by
  unfold M.readInts
  rcases ints_loopM xs hl hs xs.length FUEL 0 [] (by omega) (by rw [FUEL_eq]; omega) (by simp) with ⟨zs, e, h⟩ | e
  · have e' : M.readInts_l1 (xs.map str) FUEL [] 0 = some (.inl zs) := e
    rw [e', Option.bind_some]; exact ⟨_, rfl, h⟩
  · have e' : M.readInts_l1 (xs.map str) FUEL [] 0 = some (.inr ([], false)) := e
    rw [e', Option.bind_some]; exact ⟨_, rfl, by simp⟩
theorem digL_nat {y : Int} (h0 : 0 ≤ y) (h1 : y ≤ 9) : digL y = Lib.decDigits y.toNat := by
  obtain ⟨n, rfl⟩ : ∃ n : Nat, y = n := ⟨y.toNat, by omega⟩
  exact digL_dec n (by omega)
theorem numM_dig {y : Int} (h0 : 0 ≤ y) (h1 : y ≤ 9) : M.ParseInt (str (digL y)) = some (y, true) := by
  rw [digL_nat h0 h1, pint_Md _ (by omega), Int.toNat_of_nonneg h0]
theorem numS_dig {y : Int} (h0 : 0 ≤ y) (h1 : y ≤ 9) : numG (digL y) = y := by
  have e := numG_eq (digL y)
  rw [digL_nat h0 h1, num_Sd _ (by omega), Int.toNat_of_nonneg h0] at e
  rw [digL_nat h0 h1]
  exact (Option.some.inj e).symm
theorem ints_loopD (xs : List Int) (hl : xs.length ≤ 2000000) (hv : ∀ y ∈ xs, 0 ≤ y ∧ y ≤ 9) : ∀ (n K i : Nat) (ys : List Int), i + n = xs.length → n < K → ys.length ≤ i →
    M.readInts_l1 ((xs.map digL).map str) K ys (i : Int) = some (.inl (ys ++ xs.drop i)) := by
  intro n
  induction n with
  | zero =>
    intro K i ys h1 hK h2
    obtain ⟨K, rfl⟩ : ∃ k, K = k + 1 := ⟨K - 1, by omega⟩
    rw [M.readInts_l1, if_neg (by simp; omega), List.drop_of_length_le (by omega), List.append_nil]
  | succ n ih =>
    intro K i ys h1 hK h2
    obtain ⟨K, rfl⟩ : ∃ k, K = k + 1 := ⟨K - 1, by omega⟩
    have hi : i < xs.length := by omega
    have hi' : i < ((xs.map digL).map str).length := by simpa using hi
    have hx := hv _ (List.getElem_mem hi)
    rw [M.readInts_l1, if_pos (decide_eq_true (by omega)), idx_nat _ hi', Option.bind_some, List.getElem_map, List.getElem_map, numM_dig hx.1 hx.2, Option.bind_some, if_neg (by simp), app_eq _ _ (by simp; omega), Option.bind_some, w64_succ (by omega), ih K (i + 1) _ (by omega) (by omega) (by simp; omega), List.drop_eq_getElem_cons hi, List.append_assoc]
    rfl
theorem readInts_D (xs : List Int) (hl : xs.length ≤ 2000000) (hv : ∀ y ∈ xs, 0 ≤ y ∧ y ≤ 9) : M.readInts ((xs.map digL).map str) = some (xs, true) := by
  unfold M.readInts
  have e : M.readInts_l1 ((xs.map digL).map str) FUEL [] 0 = some (.inl xs) := ints_loopD xs hl hv xs.length FUEL 0 [] (by omega) (by rw [FUEL_eq]; omega) (by simp)
  rw [e, Option.bind_some]
theorem cut_Mle (a : Li) (c : UInt8) (h : a.length ≤ 2000000) : ∃ (x y : Li) (b : Bool), Strings.Cut (str a) (str [c]) = some (str x, str y, b) ∧ x.length ≤ a.length ∧ y.length ≤ a.length := by
  unfold Strings.Cut cutS
  rw [if_pos (show List.length (str a) < 4294967281 by have := slen a; omega)]
  have := cut_le a [c]
  exact ⟨_, _, _, rfl, this.1, this.2⟩
theorem cut_Mat (c : UInt8) (a b : Li) (h : c ∉ a) (hl : (a ++ c :: b).length ≤ 2000000) : Strings.Cut (str (a ++ c :: b)) (str [c]) = some (str a, str b, true) := by
  unfold Strings.Cut cutS
  rw [if_pos (show List.length (str (a ++ c :: b)) < 4294967281 by have := slen (a ++ c :: b); omega)]
  exact congrArg some (cut_at c a b h)
theorem trimp_le (s t : Li) : ∃ x : Li, Strings.TrimPrefix (str s) (str t) = some (str x) ∧ x.length ≤ s.length := by
  refine ⟨Lib.trimPrefix s t, rfl, ?_⟩
  unfold Lib.trimPrefix; split <;> simp
theorem trimx_le (s t : Li) (h : s.length ≤ 2000000) : ∃ x : Li, Strings.TrimSuffix (str s) (str t) = some (str x) ∧ x.length ≤ s.length := by
  unfold Strings.TrimSuffix trimSuffixS
  rw [if_pos (show List.length (str s) < 4294967281 by have := slen s; omega)]
  refine ⟨Lib.trimSuffix s t, rfl, ?_⟩
  unfold Lib.trimSuffix; split <;> simp
theorem suffix_M (s t : Li) (h : s.length ≤ 2000000) : Strings.HasSuffix (str s) (str t) = some (Lib.hasSuffix s t) := by
  unfold Strings.HasSuffix hasSuffixS
  rw [if_pos (show List.length (str s) < 4294967281 by have := slen s; omega)]; rfl
theorem split_M (s : Li) (c : UInt8) (h : s.length ≤ 2000000) : Strings.Split (str s) (str [c]) = some ((cutL c [] s).map str) := by
  unfold Strings.Split splitS
  rw [if_pos ⟨show List.length (str s) < 4294967281 by have := slen s; omega, show 1 ≤ List.length (str [c]) by have := slen [c]; simp at this; omega⟩]
  have e := split_at c s.length s (Nat.le_refl _)
  rw [← e]
  congr 1
  exact (List.map_id _).symm
theorem readCall_M (a : Li) (h : a.length ≤ 1500000) : ∃ (n : Int) (ws : List Li) (b : Bool), M.readCall (str [109]) (str a) = some (n, ws.map str, b) ∧ ws.length ≤ 2000000 ∧ ∀ x ∈ ws, x.length ≤ 2000000 := by
  obtain ⟨x, y, b, e1, hx, hy⟩ := cut_Mle a 40 (by omega)
  obtain ⟨p, e2, hp⟩ := trimp_le x [109]
  unfold M.readCall
  rw [e1, Option.bind_some]
  dsimp only
  rw [e2, Option.bind_some, numM_eq p (by omega), Option.bind_some]
  cases b
  · exact ⟨0, [], false, rfl, by simp, by simp⟩
  · cases hn : (numM p).2
    · exact ⟨0, [], false, rfl, by simp, by simp⟩
    · rw [if_neg (by simp), if_neg (by simp), suffix_M y [41] (by omega), Option.bind_some, Option.bind_some]
      cases Lib.hasSuffix y [41]
      · exact ⟨0, [], false, rfl, by simp, by simp⟩
      · obtain ⟨z, e3, hz⟩ := trimx_le y [41] (by omega)
        rw [if_neg (by simp), e3, Option.bind_some]
        split
        · exact ⟨_, [], true, rfl, by simp, by simp⟩
        · rw [split_M z 44 (by omega), Option.bind_some]
          have h1 := cutL_len 44 z []
          exact ⟨_, _, true, rfl, by omega, fun w hw => by have := cutL_part 44 z [] w hw; simp at this; omega⟩
theorem readAccess_M (a : Li) (h : a.length ≤ 1500000) : ∃ (f : Fa) (b : Bool), M.readAccess (str a) = some (f, b) ∧ f.2.length ≤ 4294967296 := by
  obtain ⟨n, ws, b, e1, h1, h2⟩ := readCall_M a h
  obtain ⟨r, e2, h3⟩ := readInts_M ws h1 h2
  unfold M.readAccess
  rw [e1, Option.bind_some]
  dsimp only
  rw [e2, Option.bind_some]
  cases b
  · exact ⟨(n, r.1), false, rfl, by show r.1.length ≤ _; omega⟩
  · cases hr : r.2
    · exact ⟨(n, r.1), false, rfl, by show r.1.length ≤ _; omega⟩
    · rw [if_pos rfl, if_pos rfl, acc_M (n, r.1) (by show r.1.length ≤ _; omega)]
      exact ⟨(n, r.1), _, rfl, by show r.1.length ≤ _; omega⟩
theorem readAccess_D (f : Fa) (h : okA f = true) : M.readAccess (str (accT f)) = some (f, true) := by
  obtain ⟨h1, h2, h3⟩ := okA_iff h
  have hl := accT_len f
  have hj : (inn f).length ≤ 6 := by have := join_len f.2 [44] rfl; unfold inn; omega
  have e0 := accT_eq h
  have c1 : (40 : UInt8) ∉ 109 :: digL f.1 := by
    intro hm
    rcases List.mem_cons.1 hm with hm | hm
    · exact absurd hm (by decide)
    · exact dig_not h1.1 (by omega) (by decide) hm
  have e1 : Strings.Cut (str (accT f)) (str [40]) = some (str (109 :: digL f.1), str (inn f ++ [41]), true) := by
    have := cut_Mat 40 (109 :: digL f.1) (inn f ++ [41]) c1 (by have := accT_len f; rw [e0] at this; simp at this ⊢; omega)
    rw [e0]; exact this
  have e2 : Strings.TrimPrefix (str (109 :: digL f.1)) (str [109]) = some (str (digL f.1)) := by
    show some (Lib.trimPrefix (109 :: digL f.1) [109]) = some (digL f.1)
    unfold Lib.trimPrefix
    rw [if_pos (by simp [Lib.hasPrefix, List.isPrefixOf])]; rfl
  have e3 : Strings.HasSuffix (str (inn f ++ [41])) (str [41]) = some true := by
    rw [suffix_M _ _ (by simp; omega)]
    congr 1
    unfold Lib.hasSuffix
    rw [List.isSuffixOf_iff_suffix]
    exact ⟨inn f, rfl⟩
  have e4 : Strings.TrimSuffix (str (inn f ++ [41])) (str [41]) = some (str (inn f)) := by
    unfold Strings.TrimSuffix trimSuffixS
    rw [if_pos (show List.length (str (inn f ++ [41])) < 4294967281 by have := slen (inn f ++ [41]); simp at this; omega)]
    show some (Lib.trimSuffix (inn f ++ [41]) [41]) = some (inn f)
    unfold Lib.trimSuffix
    rw [if_pos (by unfold Lib.hasSuffix; rw [List.isSuffixOf_iff_suffix]; exact ⟨inn f, rfl⟩)]
    congr 1
    exact List.take_left' (by simp)
  have e5 : M.readCall (str [109]) (str (accT f)) = some (f.1, (f.2.map digL).map str, true) := by
    unfold M.readCall
    rw [e1, Option.bind_some]
    dsimp only
    rw [e2, Option.bind_some, numM_dig h1.1 (by omega), Option.bind_some, if_neg (by simp), if_neg (by simp), e3, Option.bind_some, Option.bind_some, if_neg (by simp), e4, Option.bind_some]
    by_cases hn : f.2 = []
    · have : inn f = [] := by unfold inn; rw [hn]; rfl
      rw [this, if_pos (by decide), hn]; rfl
    · have hi : inn f ≠ [] := join_ne hn
      rw [if_neg (show ¬ decide (str (inn f) = str []) = true from fun e => hi (of_decide_eq_true e)), split_M _ _ (by omega), Option.bind_some]
      rw [show cutL 44 [] (inn f) = f.2.map digL from join_cut hn h3]
  unfold M.readAccess
  rw [e5, Option.bind_some]
  dsimp only
  rw [readInts_D f.2 (by omega) h3, Option.bind_some, if_pos rfl, if_pos rfl, acc_M f (by omega)]
  simp
theorem access_Sd (f : Fa) (h : okA f = true) : S.l24Access (str (accT f)) = some f := by
  obtain ⟨h1, h2, h3⟩ := okA_iff h
  have hl := accT_len f
  have e0 := accT_eq h
  have hd : digL f.1 = [UInt8.ofNat (48 + f.1.toNat)] := rfl
  have e1 : accT f = [109, UInt8.ofNat (48 + f.1.toNat), 40] ++ (inn f ++ [41]) := by rw [e0, hd]; simp
  have hlen : (accT f).length = (inn f).length + 4 := by rw [e1]; simp
  have g0 : (accT f)[0]'(by omega) = 109 := by simp [e1]
  have g1 : (accT f)[1]'(by omega) = UInt8.ofNat (48 + f.1.toNat) := by simp [e1]
  have g2 : (accT f)[2]'(by omega) = 40 := by simp [e1]
  have g3 : (accT f)[(accT f).length - 1]'(by omega) = 41 := by
    have : (accT f).length - 1 = 3 + (inn f).length := by omega
    simp only [this, e1]
    rw [List.getElem_append_right (by simp), List.getElem_append_right (by simp)]
    simp
  have n1 : ¬ UInt8.ofNat (48 + f.1.toNat) = 40 := fun e => by
    have := congrArg UInt8.toNat e
    rw [dig_toNat (by omega)] at this
    have h40 : (40 : UInt8).toNat = 40 := rfl
    omega
  have t1 : ((accT f).take 2).drop 1 = digL f.1 := by rw [e1, hd]; rfl
  have t2 : ((accT f).take ((accT f).length - 1)).drop (2 + 1) = inn f := by
    have : (accT f).length - 1 = 3 + (inn f).length := by omega
    rw [this, e1, show 3 + (inn f).length = ([109, UInt8.ofNat (48 + f.1.toNat), 40] ++ inn f).length by simp; omega, ← List.append_assoc, List.take_left' rfl]
    exact List.drop_left' rfl
  obtain ⟨K, hK⟩ : ∃ K, FUEL = K + 3 := ⟨4611686018427387901, FUEL_eq⟩
  have eL : S.l24Access_l1 (str (accT f)) FUEL 0 [] 0 = some (.inr (accG (accT f) 2)) := by
    have s0 := acc_miss (accT f) (K + 2) 0 0 [] (by omega) (by omega) (fun e => absurd (g0.symm.trans e.1) (by decide))
    have s1 := acc_miss (accT f) (K + 1) 1 0 [] (by omega) (by omega) (fun e => n1 (g1.symm.trans e.1))
    have s2 := acc_hit (accT f) (by omega) K 2 0 [] (by omega) (by omega) g2 g3 g0
    rw [hK]
    exact s0.trans (s1.trans s2)
  unfold S.l24Access
  rw [eL, Option.bind_some]
  dsimp only
  unfold accG
  rw [t1, t2, numS_dig h1.1 (by omega)]
  by_cases hn : f.2 = []
  · have : inn f = [] := by unfold inn; rw [hn]; rfl
    rw [if_pos this, ← hn]
  · have hi : inn f ≠ [] := join_ne hn
    rw [if_neg hi, show cutL 44 [] (inn f) = f.2.map digL from join_cut hn h3, List.map_map]
    have : f.2.map (numG ∘ digL) = f.2 := by
      conv => rhs; rw [← List.map_id f.2]
      exact List.map_congr_left fun y hy => numS_dig (h3 y hy).1 (h3 y hy).2
    rw [this]
/-! cursors -/
theorem curT_ne {c : Cu} (h : curT c ≠ []) : (okA c.1 = true ∧ (0 ≤ c.2.1 ∧ c.2.1 ≤ 1000) ∧ (0 ≤ c.2.2 ∧ c.2.2 ≤ 1000)) ∧ curT c = accT c.1 ++ 43 :: (Lib.decDigits c.2.1.toNat ++ 64 :: Lib.decDigits c.2.2.toNat) := by
  unfold curT at h ⊢
  split at h
  · rename_i hc
    rw [if_pos hc]
    simp only [Bool.and_eq_true, inR_iff] at hc
    exact ⟨⟨hc.1, hc.2.1, hc.2.2⟩, by simp⟩
  · exact absurd rfl h
theorem accT_not {f : Fa} (h : okA f = true) {x : UInt8} (hx : x = 43 ∨ x = 64) : x ∉ accT f := by
  obtain ⟨h1, h2, h3⟩ := okA_iff h
  rw [accT_eq h]
  intro hm
  have hr : x.toNat < 48 ∨ 57 < x.toNat := by rcases hx with rfl | rfl <;> decide
  rcases List.mem_cons.1 hm with hm | hm
  · rcases hx with rfl | rfl <;> exact absurd hm (by decide)
  rcases List.mem_append.1 hm with hm | hm
  · exact dig_not h1.1 (by omega) hr hm
  rcases List.mem_cons.1 hm with hm | hm
  · rcases hx with rfl | rfl <;> exact absurd hm (by decide)
  rcases List.mem_append.1 hm with hm | hm
  · exact join_not h3 hr (by rcases hx with rfl | rfl <;> decide) hm
  · rcases hx with rfl | rfl <;> exact absurd hm (by decide)
abbrev Cz : Cu × Bool := (((0, []), 0, 0), false)
theorem readAccess_nil : ∃ f : Fa, M.readAccess (str []) = some (f, false) := by
  have e1 : Strings.Cut (str []) (str [40]) = some (str [], str [], false) := rfl
  have e2 : Strings.TrimPrefix (str []) (str [109]) = some (str []) := rfl
  have e3 : M.readCall (str [109]) (str []) = some (0, [], false) := by
    unfold M.readCall
    rw [e1, Option.bind_some]
    dsimp only
    rw [e2, Option.bind_some, numM_eq [] (by simp), Option.bind_some]; rfl
  obtain ⟨r, e4, _⟩ := readInts_M [] (by simp) (by simp)
  have e4' : M.readInts [] = some r := e4
  unfold M.readAccess
  rw [e3, Option.bind_some]
  dsimp only
  rw [e4', Option.bind_some]
  exact ⟨_, rfl⟩
theorem str_ne {x y : Li} (h : ¬ x = y) : (!decide (str x = str y)) = true := by
  rw [decide_eq_false (show ¬ str x = str y from h)]; rfl
theorem parse_M (a : Li) (h : a.length ≤ 1500000) : M.ParseCursor (str a) = some Cz ∨ ∃ c : Cu, M.ParseCursor (str a) = some (c, true) ∧ curT c = a ∧ a ≠ [] := by
  by_cases ha : a = []
  · subst ha
    left
    obtain ⟨f, e3⟩ := readAccess_nil
    have e1 : Strings.Cut (str []) (str [43]) = some (str [], str [], false) := rfl
    have e2 : Strings.Cut (str []) (str [64]) = some (str [], str [], false) := rfl
    unfold M.ParseCursor
    rw [e1, Option.bind_some]
    dsimp only
    rw [e2, Option.bind_some]
    dsimp only
    rw [e3, Option.bind_some, numM_eq [] (by simp), Option.bind_some]; rfl
  obtain ⟨x, y, b, e1, hx, hy⟩ := cut_Mle a 43 (by omega)
  obtain ⟨u, v, b2, e2, hu, hv⟩ := cut_Mle y 64 (by omega)
  obtain ⟨f, b3, e3, hf⟩ := readAccess_M x (by omega)
  unfold M.ParseCursor
  rw [e1, Option.bind_some]
  dsimp only
  rw [e2, Option.bind_some]
  dsimp only
  rw [e3, Option.bind_some, numM_eq u (by omega), Option.bind_some, numM_eq v (by omega), Option.bind_some]
  cases b3
  · exact .inl rfl
  · cases h4 : (numM u).2
    · exact .inl rfl
    · cases h5 : (numM v).2
      · exact .inl rfl
      · rw [if_neg (by simp), if_neg (by simp), if_neg (by simp), cur_M (f, (numM u).1, (numM v).1) hf, Option.bind_some, Option.bind_some]
        by_cases hc : curT (f, (numM u).1, (numM v).1) = a
        · right
          refine ⟨(f, (numM u).1, (numM v).1), ?_, hc, ha⟩
          rw [if_neg (show ¬ (!decide (str (curT (f, (numM u).1, (numM v).1)) = str a)) = true by rw [hc]; simp)]
        · left
          rw [if_pos (str_ne hc)]
theorem parse_S (a : Li) (h : a.length ≤ 1500000) : S.ParseCursor (str a) = some Cz ∨ ∃ c : Cu, S.ParseCursor (str a) = some (c, true) ∧ curT c = a ∧ a ≠ [] := by
  unfold S.ParseCursor
  rw [cut_S a 43 43 rfl (by omega), Option.bind_some]
  by_cases h2 : ((((cutL 43 [] a).map str).length : Nat) : Int) = 2
  · rw [if_neg (by rw [h2]; simp)]
    have hl2 : (cutL 43 [] a).length = 2 := by rw [List.length_map] at h2; omega
    have ha : a ≠ [] := by rintro rfl; simp [cutL] at hl2
    obtain ⟨p, q, hpq⟩ : ∃ p q, cutL 43 [] a = [p, q] := by
      match hm : cutL 43 [] a, hl2 with
      | [p, q], _ => exact ⟨p, q, rfl⟩
    have hp := cutL_part 43 a [] p (by rw [hpq]; simp)
    have hq := cutL_part 43 a [] q (by rw [hpq]; simp)
    simp only [List.length_nil, Nat.zero_add] at hp hq
    rw [hpq]
    rw [show idx ([p, q].map str) 1 = some (str q) from rfl, Option.bind_some, cut_S q 64 64 rfl (by omega), Option.bind_some]
    by_cases h3 : ((((cutL 64 [] q).map str).length : Nat) : Int) = 2
    · rw [if_neg (by rw [h3]; simp)]
      have hl3 : (cutL 64 [] q).length = 2 := by rw [List.length_map] at h3; omega
      obtain ⟨u, v, huv⟩ : ∃ u v, cutL 64 [] q = [u, v] := by
        match hm : cutL 64 [] q, hl3 with
        | [u, v], _ => exact ⟨u, v, rfl⟩
      obtain ⟨r, er, hr⟩ := acc_S2 p (by omega)
      rw [huv, show idx ([p, q].map str) 0 = some (str p) from rfl, show idx ([u, v].map str) 0 = some (str u) from rfl, show idx ([u, v].map str) 1 = some (str v) from rfl, Option.bind_some, Option.bind_some, Option.bind_some, er, Option.bind_some, numG_eq, Option.bind_some, numG_eq, Option.bind_some, Option.bind_some]
      dsimp only
      rw [show ((r.1, r.2), numG u, numG v) = (r, numG u, numG v) from rfl, cur_S (r, numG u, numG v) (by show r.2.length ≤ _; omega), Option.bind_some]
      by_cases hc : curT (r, numG u, numG v) = a
      · right
        refine ⟨(r, numG u, numG v), ?_, hc, ha⟩
        rw [if_neg (show ¬ (!decide (str (curT (r, numG u, numG v)) = str a)) = true by rw [hc]; simp)]
      · left
        rw [if_pos (str_ne hc)]
    · left
      rw [if_pos (by simpa using h3)]
  · left
    rw [if_pos (by simpa using h2)]
theorem cur_round (c : Cu) (h : curT c ≠ []) : M.ParseCursor (str (curT c)) = some (c, true) ∧ S.ParseCursor (str (curT c)) = some (c, true) := by
  obtain ⟨⟨h1, h2, h3⟩, e⟩ := curT_ne h
  have hl := curT_len c
  have hl1 := accT_len c.1
  have hf := okA_len h1
  obtain ⟨f, o, v⟩ := c
  obtain ⟨m, rfl⟩ : ∃ m : Nat, o = m := ⟨o.toNat, by dsimp only at h2; omega⟩
  obtain ⟨n, rfl⟩ : ∃ n : Nat, v = n := ⟨v.toNat, by dsimp only at h3; omega⟩
  dsimp only at h1 h2 h3 e hl1 hf
  rw [Int.toNat_natCast, Int.toNat_natCast] at e
  have n1 : (43 : UInt8) ∉ accT f := accT_not h1 (.inl rfl)
  have n2 : (43 : UInt8) ∉ Lib.decDigits m ++ 64 :: Lib.decDigits n := by
    intro hm
    rcases List.mem_append.1 hm with hm | hm
    · exact dec_not (by decide) hm
    · rcases List.mem_cons.1 hm with hm | hm
      · exact absurd hm (by decide)
      · exact dec_not (by decide) hm
  have n3 : (64 : UInt8) ∉ Lib.decDigits m := dec_not (by decide)
  have n4 : (64 : UInt8) ∉ Lib.decDigits n := dec_not (by decide)
  have hlm : (Lib.decDigits m ++ 64 :: Lib.decDigits n).length ≤ 1000 := by
    have := hl; rw [e] at this; simp only [List.length_append, List.length_cons] at this ⊢; omega
  have hcm := cur_M (f, (m : Int), (n : Int)) (by show f.2.length ≤ _; omega)
  have hcs := cur_S (f, (m : Int), (n : Int)) (by show f.2.length ≤ _; omega)
  constructor
  · have e1 : Strings.Cut (str (curT (f, (m : Int), (n : Int)))) (str [43]) = some (str (accT f), str (Lib.decDigits m ++ 64 :: Lib.decDigits n), true) := by
      rw [e]; exact cut_Mat 43 _ _ n1 (by rw [← e]; omega)
    have e2 : Strings.Cut (str (Lib.decDigits m ++ 64 :: Lib.decDigits n)) (str [64]) = some (str (Lib.decDigits m), str (Lib.decDigits n), true) := cut_Mat 64 _ _ n3 (by omega)
    unfold M.ParseCursor
    rw [e1, Option.bind_some]
    dsimp only
    rw [e2, Option.bind_some]
    dsimp only
    rw [readAccess_D f h1, Option.bind_some, pint_Md m (by omega), Option.bind_some, pint_Md n (by omega), Option.bind_some, if_neg (by simp), if_neg (by simp), if_neg (by simp)]
    dsimp only
    rw [hcm, Option.bind_some, Option.bind_some, if_neg (by simp)]
  · unfold S.ParseCursor
    rw [cut_S _ 43 43 rfl (by omega), Option.bind_some]
    rw [show cutL 43 [] (curT (f, (m : Int), (n : Int))) = [accT f, Lib.decDigits m ++ 64 :: Lib.decDigits n] by rw [e, cutL_some 43 _ _ [] n1, cutL_none 43 _ [] n2]; rfl]
    rw [if_neg (by simp), show idx ([accT f, Lib.decDigits m ++ 64 :: Lib.decDigits n].map str) 1 = some (str (Lib.decDigits m ++ 64 :: Lib.decDigits n)) from rfl, Option.bind_some, cut_S _ 64 64 rfl (by omega), Option.bind_some]
    rw [show cutL 64 [] (Lib.decDigits m ++ 64 :: Lib.decDigits n) = [Lib.decDigits m, Lib.decDigits n] by rw [cutL_some 64 _ _ [] n3, cutL_none 64 _ [] n4]; rfl]
    rw [if_neg (by simp), show idx ([accT f, Lib.decDigits m ++ 64 :: Lib.decDigits n].map str) 0 = some (str (accT f)) from rfl, show idx ([Lib.decDigits m, Lib.decDigits n].map str) 0 = some (str (Lib.decDigits m)) from rfl, show idx ([Lib.decDigits m, Lib.decDigits n].map str) 1 = some (str (Lib.decDigits n)) from rfl, Option.bind_some, Option.bind_some, Option.bind_some, access_Sd f h1, Option.bind_some, num_Sd m (by omega), Option.bind_some, num_Sd n (by omega), Option.bind_some, Option.bind_some]
    dsimp only
    rw [show ((f.1, f.2), (m : Int), (n : Int)) = (f, (m : Int), (n : Int)) from rfl, hcs, Option.bind_some, if_neg (by simp)]
theorem parse_same (a : Li) (h : a.length ≤ 1500000) : ∃ r : Cu × Bool, S.ParseCursor (str a) = some r ∧ M.ParseCursor (str a) = some r ∧ (r = Cz ∨ r.2 = true ∧ curT r.1 = a ∧ a ≠ []) := by
  rcases parse_M a h with e | ⟨c, e, hc, ha⟩
  · rcases parse_S a h with e2 | ⟨c, e2, hc, ha⟩
    · exact ⟨_, e2, e, .inl rfl⟩
    · subst hc
      rw [(cur_round c ha).1] at e
      exact absurd (congrArg Prod.snd (Option.some.inj e)) (by simp)
  · subst hc
    exact ⟨_, (cur_round c ha).2, e, .inr ⟨rfl, rfl, ha⟩⟩
theorem same_ParseCursor (s : Str) (z : SZ.sz s ≤ 1048576) (_ : Rng.r s) : ∃ r, S.ParseCursor s = some r ∧ M.ParseCursor s = some r ∧ SZ.sm r := by
  obtain ⟨r, e1, e2, h⟩ := parse_same s (by have : List.length s ≤ 1048576 := z; omega)
  refine ⟨r, e1, e2, ?_⟩
  rcases h with rfl | ⟨_, h, ha⟩
  · exact ⟨⟨⟨trivial, sm_nil⟩, trivial, trivial⟩, trivial⟩
  · subst h
    have hf := okA_len (curT_ne ha).1.1
    exact ⟨⟨⟨trivial, sm_ints (by omega)⟩, trivial, trivial⟩, trivial⟩
end Go.Gx.Px
