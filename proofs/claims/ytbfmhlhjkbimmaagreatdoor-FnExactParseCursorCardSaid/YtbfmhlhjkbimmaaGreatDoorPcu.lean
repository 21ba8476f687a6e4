/- Plain laws: the texts of accesses and cursors. Conditions: none. -/
import Derived.Test.YtbfmhlhjkbimmaaGreatDoorPcuA
set_option linter.unusedVariables false
set_option linter.unusedSimpArgs false
namespace Go.Gx.Px
/-! numbers in decimal -/
theorem dec_len : ∀ (d n : Nat), n < 10 ^ (d + 1) → (Lib.decDigits n).length ≤ d + 1 := by
  intro d
  induction d with
  | zero =>
    intro n h
    rw [Lib.decDigits, dif_pos (by simpa using h)]; simp
  | succ d ih =>
    intro n h
    rw [Lib.decDigits]
    split
    · simp
    · have h2 : n / 10 < 10 ^ (d + 1) := by rw [Nat.div_lt_iff_lt_mul (by omega)]; rw [Nat.pow_succ] at h; exact h
      have := ih (n / 10) h2
      rw [List.length_append]; simp; omega
theorem fi_loop : ∀ (d n K : Nat) (t : Li), 1 ≤ n → n < 10 ^ (d + 1) → n < 4611686018427387904 → d + 1 < K → t.length + d + 1 ≤ 1000000 → S.FormatInt_l1 K (n : Int) (str t) = some (str (Lib.decDigits n ++ t)) := by
  intro d
  induction d with
  | zero =>
    intro n K t h0 h1 h2 hK ht
    obtain ⟨K, rfl⟩ : ∃ k, K = k + 2 := ⟨K - 2, by omega⟩
    have h9 : n < 10 := by simpa using h1
    have e1 : (n : Int).tmod 10 = n := by rw [Int.tmod_eq_emod_of_nonneg (by omega)]; omega
    have e2 : w64 ((n : Int).tdiv 10) = 0 := by rw [Int.tdiv_eq_ediv_of_nonneg (by omega), w64_sm (by omega) (by omega)]; omega
    have e3 : u8 (w64 (48 + (n : Int))) = UInt8.ofNat (48 + n) := by rw [w64_sm (by omega) (by omega), u8_nat _ (by omega) (by omega)]; congr 1
    rw [S.FormatInt_l1, if_pos (by simp; omega), e1, if_neg (by simp), Option.bind_some, e3, e2, show Str.of [UInt8.ofNat (48 + n)] = str [UInt8.ofNat (48 + n)] from rfl, cat_str _ _ (by simp; omega), Option.bind_some, S.FormatInt_l1, if_neg (by simp), Lib.decDigits, dif_pos h9]
  | succ d ih =>
    intro n K t h0 h1 h2 hK ht
    obtain ⟨K, rfl⟩ : ∃ k, K = k + 2 := ⟨K - 2, by omega⟩
    have e1 : (n : Int).tmod 10 = ((n % 10 : Nat) : Int) := by rw [Int.tmod_eq_emod_of_nonneg (by omega)]; omega
    have e2 : w64 ((n : Int).tdiv 10) = ((n / 10 : Nat) : Int) := by rw [Int.tdiv_eq_ediv_of_nonneg (by omega), w64_sm (by omega) (by omega)]; omega
    have e3 : u8 (w64 (48 + ((n % 10 : Nat) : Int))) = UInt8.ofNat (48 + n % 10) := by rw [w64_sm (by omega) (by omega), u8_nat _ (by omega) (by omega)]; congr 1
    rw [S.FormatInt_l1, if_pos (by simp; omega), e1, if_neg (by simp; omega), Option.bind_some, e3, e2, show Str.of [UInt8.ofNat (48 + n % 10)] = str [UInt8.ofNat (48 + n % 10)] from rfl, cat_str _ _ (by simp; omega), Option.bind_some]
    by_cases h9 : n < 10
    · rw [show n / 10 = 0 by omega, S.FormatInt_l1, if_neg (by simp), Lib.decDigits, dif_pos h9, show n % 10 = n by omega]
    · have h3 : n / 10 < 10 ^ (d + 1) := by rw [Nat.div_lt_iff_lt_mul (by omega)]; rw [Nat.pow_succ] at h1; exact h1
      rw [ih (n / 10) (K + 1) _ (by omega) h3 (by omega) (by omega) (by simp; omega)]
      conv => rhs; rw [Lib.decDigits, dif_neg h9, List.append_assoc]
theorem fint_S (n : Nat) (h : n < 1000000000) : S.FormatInt (n : Int) = some (str (Lib.decDigits n)) := by
  unfold S.FormatInt
  by_cases h0 : n = 0
  · subst h0
    rw [if_pos (by simp), Lib.decDigits, dif_pos (by omega)]; rfl
  · have h1 := fi_loop 8 n FUEL [] (by omega) (by simpa using h) (by omega) (by rw [FUEL_eq]; omega) (by simp)
    rw [List.append_nil] at h1
    have h1' : S.FormatInt_l1 FUEL (n : Int) (str []) = some (str (Lib.decDigits n)) := h1
    rw [if_neg (by simp; omega), h1', Option.bind_some, if_neg (by simp)]
theorem fint_M (n : Nat) (h : n < 1000000000) : M.FormatInt (n : Int) = some (str (Lib.decDigits n)) := by
  unfold M.FormatInt Strconv.Itoa itoaF
  rw [if_pos ⟨by omega, by omega⟩]
  have e : Lib.itoa (n : Int) = Lib.decDigits n := by unfold Lib.itoa; rw [if_neg (by omega)]; rfl
  rw [e]; rfl
/-! texts of accesses -/
theorem digL_dec (n : Nat) (h : n ≤ 9) : digL (n : Int) = Lib.decDigits n := by rw [Lib.decDigits, dif_pos (by omega)]; rfl
theorem fint_dig (x : Int) (h0 : 0 ≤ x) (h1 : x ≤ 9) : S.FormatInt x = some (str (digL x)) := by
  obtain ⟨n, rfl⟩ : ∃ n : Nat, x = n := ⟨x.toNat, by omega⟩
  rw [digL_dec n (by omega)]
  exact fint_S n (by omega)
theorem list_loop (v : List Int) (hv : ∀ x ∈ v, 0 ≤ x ∧ x ≤ 9) (hl : v.length ≤ 1000) : ∀ (n K i : Nat) (t : Li), i + n = v.length → n < K → 1 ≤ i → t.length ≤ 2 * i → S.l2List_l1 v K (str t) (i : Int) = some (str (t ++ Lib.joinTail [44] ((v.drop i).map digL))) := by
  intro n
  induction n with
  | zero =>
    intro K i t h1 hK h0 ht
    obtain ⟨K, rfl⟩ : ∃ k, K = k + 1 := ⟨K - 1, by omega⟩
    rw [S.l2List_l1, if_neg (by simp; omega), List.drop_of_length_le (by omega)]
    show some (str t) = some (str (t ++ [])); rw [List.append_nil]
  | succ n ih =>
    intro K i t h1 hK h0 ht
    obtain ⟨K, rfl⟩ : ∃ k, K = k + 1 := ⟨K - 1, by omega⟩
    have hi : i < v.length := by omega
    have hx := hv _ (List.getElem_mem hi)
    have hd : (digL v[i]).length = 1 := rfl
    rw [S.l2List_l1, if_pos (decide_eq_true (by omega)), if_pos (decide_eq_true (by omega)), cat_str _ _ (by simp; omega), Option.bind_some, Option.bind_some, idx_nat v hi, Option.bind_some, fint_dig _ hx.1 hx.2, Option.bind_some, cat_str _ _ (by simp; omega), Option.bind_some, w64_succ (by omega), ih K (i + 1) _ (by omega) (by omega) (by omega) (by simp; omega), List.drop_eq_getElem_cons hi, List.map_cons]
    have e : Lib.joinTail [44] (digL v[i] :: (v.drop (i + 1)).map digL) = [44] ++ digL v[i] ++ Lib.joinTail [44] ((v.drop (i + 1)).map digL) := rfl
    rw [e]; simp only [List.append_assoc]
theorem list_S (v : List Int) (hv : ∀ x ∈ v, 0 ≤ x ∧ x ≤ 9) (hl : v.length ≤ 1000) : S.l2List v = some (str (Lib.join (v.map digL) [44])) := by
  unfold S.l2List
  cases v with
  | nil =>
    rw [FUEL_eq, S.l2List_l1, if_neg (by simp)]; rfl
  | cons a r =>
    have ha := hv a (by simp)
    have hd : (digL a).length = 1 := rfl
    have e0 : idx (a :: r) 0 = some a := rfl
    have h2 := list_loop (a :: r) hv hl r.length (4611686018427387903) 1 (digL a) (by simp; omega) (by simp at hl; omega) (by omega) (by omega)
    have h3 : S.l2List_l1 (a :: r) FUEL (str []) 0 = some (str (digL a ++ Lib.joinTail [44] (r.map digL))) := by
      rw [show FUEL = 4611686018427387903 + 1 from FUEL_eq, S.l2List_l1, if_pos (decide_eq_true (by show (0 : Int) < ((r.length + 1 : Nat) : Int); omega)), if_neg (by simp), Option.bind_some, e0, Option.bind_some, fint_dig _ ha.1 ha.2, Option.bind_some, cat_str _ _ (by simp [hd]), Option.bind_some, List.nil_append, show w64 (0 + 1) = ((1 : Nat) : Int) from w64_sm (by omega) (by omega)]
      exact h2
    rw [h3, List.map_cons, Lib.join_cons]; rfl
def accT (f : Fa) : Li := if okA f then [109] ++ digL f.1 ++ [40] ++ Lib.join (f.2.map digL) [44] ++ [41] else []
theorem accT_len (f : Fa) : (accT f).length ≤ 20 := by
  unfold accT
  split
  · rename_i h
    have h1 := okA_len h
    have h2 := join_len f.2 [44] rfl
    have h3 : (digL f.1).length = 1 := rfl
    simp only [List.length_append, List.length_cons, List.length_nil]; omega
  · simp
theorem acc_S (f : Fa) (hf : f.2.length ≤ 4294967296) : S.FormatAccess f = some (str (accT f)) := by
  unfold S.FormatAccess accT okA
  rw [inS]
  cases h1 : inR f.1 0 4
  · rfl
  · by_cases h2 : (3 : Int) < (f.2.length : Int)
    · rw [decide_eq_true h2]; rfl
    · rw [decide_eq_false h2]
      rw [all_loop (S.FormatAccess_l1 f) f.2 (fun x => inR x 0 9) (str []) hf (fun k => by rw [S.FormatAccess_l1, if_neg (by simp)]) (fun k i hi => by
        rw [S.FormatAccess_l1, if_pos (decide_eq_true (by omega)), idx_nat _ hi, Option.bind_some, inS, Option.bind_some, w64_succ (by omega)]
        cases inR f.2[i] 0 9 <;> rfl)]
      have hval : valsOk f.2 = f.2.all fun x => inR x 0 9 := rfl
      rw [hval]
      cases h3 : f.2.all fun x => inR x 0 9
      · rfl
      · rw [inR_iff] at h1
        have hj := join_len f.2 [44] rfl
        have hd : (digL f.1).length = 1 := rfl
        simp only [Option.bind_some, Bool.not_true, Bool.false_eq_true, if_false, if_true, Bool.not_false, Bool.and_self]
        rw [fint_dig _ (by omega) (by omega), Option.bind_some, cat_str _ _ (by simp; omega), Option.bind_some, cat_str _ _ (by simp; omega), Option.bind_some, list_S f.2 (all_in h3) (by omega), Option.bind_some, cat_str _ _ (by simp; omega), Option.bind_some, cat_str _ _ (by simp; omega)]
        rfl
theorem acc_M (f : Fa) (hf : f.2.length ≤ 4294967296) : M.FormatAccess f = some (str (accT f)) := by
  unfold M.FormatAccess accT okA
  rw [inM]
  cases h1 : inR f.1 0 4
  · rfl
  · by_cases h2 : (3 : Int) < (f.2.length : Int)
    · rw [decide_eq_true h2]; rfl
    · rw [decide_eq_false h2, areValues_M _ hf]
      cases h3 : valsOk f.2
      · rfl
      · rw [inR_iff] at h1
        have hj := join_len f.2 [44] rfl
        have hd : (digL f.1).length = 1 := rfl
        have a1 : M.FormatInt f.1 = some (str (digL f.1)) := itoa_M f.1 (by omega) (by omega)
        simp only [Option.bind_some, Bool.not_true, Bool.false_eq_true, if_false, if_true, Bool.not_false, Bool.and_self]
        rw [a1, Option.bind_some, cat_str _ _ (by simp; omega), Option.bind_some, cat_str _ _ (by simp; omega), Option.bind_some, joined_T f.2 (by omega) (all_in h3), Option.bind_some, cat_str _ _ (by simp; omega), Option.bind_some, cat_str _ _ (by simp; omega)]
        rfl
/-! cursors -/
abbrev Cu := Fa × Int × Int
def curT (c : Cu) : Li := if okA c.1 && (inR c.2.1 0 1000 && inR c.2.2 0 1000) then accT c.1 ++ [43] ++ Lib.decDigits c.2.1.toNat ++ [64] ++ Lib.decDigits c.2.2.toNat else []
theorem accT_nil (f : Fa) : decide (str (accT f) = str []) = !okA f := by
  cases h : okA f
  · unfold accT; rw [h]; exact decide_eq_true rfl
  · refine decide_eq_false fun e => ?_
    have e' : accT f = [] := e
    unfold accT at e'
    rw [h, if_pos rfl] at e'
    have := congrArg List.length e'
    simp at this
theorem cur_S (c : Cu) (h : c.1.2.length ≤ 4294967296) : S.FormatCursor c = some (str (curT c)) := by
  unfold S.FormatCursor curT
  rw [show (c.1.1, c.1.2) = c.1 from rfl, acc_S _ h, Option.bind_some, accT_nil, inS, inS]
  cases h1 : okA c.1
  · rfl
  · cases h2 : inR c.2.1 0 1000
    · rfl
    · cases h3 : inR c.2.2 0 1000
      · rfl
      · rw [inR_iff] at h2 h3
        have h4 := accT_len c.1
        obtain ⟨m, hm⟩ : ∃ m : Nat, c.2.1 = m := ⟨c.2.1.toNat, by omega⟩
        obtain ⟨n, hn⟩ : ∃ n : Nat, c.2.2 = n := ⟨c.2.2.toNat, by omega⟩
        have h5 := dec_len 3 m (by simp; omega)
        have h6 := dec_len 3 n (by simp; omega)
        rw [hm, hn]
        simp only [Option.bind_some, Bool.not_true, Bool.false_eq_true, if_false, if_true, Bool.and_self, Int.toNat_natCast]
        rw [cat_str _ _ (by simp; omega), Option.bind_some, fint_S m (by omega), Option.bind_some, cat_str _ _ (by simp; omega), Option.bind_some, cat_str _ _ (by simp; omega), Option.bind_some, fint_S n (by omega), Option.bind_some, cat_str _ _ (by simp; omega)]
        rfl
theorem cur_M (c : Cu) (h : c.1.2.length ≤ 4294967296) : M.FormatCursor c = some (str (curT c)) := by
  unfold M.FormatCursor curT
  rw [show (c.1.1, c.1.2) = c.1 from rfl, acc_M _ h, Option.bind_some, accT_nil, inM, inM]
  cases h1 : okA c.1
  · rfl
  · cases h2 : inR c.2.1 0 1000
    · rfl
    · cases h3 : inR c.2.2 0 1000
      · rfl
      · rw [inR_iff] at h2 h3
        have h4 := accT_len c.1
        obtain ⟨m, hm⟩ : ∃ m : Nat, c.2.1 = m := ⟨c.2.1.toNat, by omega⟩
        obtain ⟨n, hn⟩ : ∃ n : Nat, c.2.2 = n := ⟨c.2.2.toNat, by omega⟩
        have h5 := dec_len 3 m (by simp; omega)
        have h6 := dec_len 3 n (by simp; omega)
        rw [hm, hn]
        simp only [Option.bind_some, Bool.not_true, Bool.false_eq_true, if_false, if_true, Bool.and_self, Int.toNat_natCast]
        rw [cat_str _ _ (by simp; omega), Option.bind_some, fint_M m (by omega), Option.bind_some, cat_str _ _ (by simp; omega), Option.bind_some, cat_str _ _ (by simp; omega), Option.bind_some, fint_M n (by omega), Option.bind_some, cat_str _ _ (by simp; omega)]
        rfl
theorem curT_len (c : Cu) : (curT c).length ≤ 1000 := by
  unfold curT
  split
  · rename_i h
    simp only [Bool.and_eq_true, inR_iff] at h
    have h4 := accT_len c.1
    have h5 := dec_len 3 c.2.1.toNat (by simp; omega)
    have h6 := dec_len 3 c.2.2.toNat (by simp; omega)
    simp only [List.length_append, List.length_cons, List.length_nil]; omega
  · simp
theorem same_FormatCursor (c : Cu) (z : SZ.sz c ≤ 1048576) (_ : Rng.r c) : ∃ r, S.FormatCursor c = some r ∧ M.FormatCursor c = some r ∧ SZ.sm r :=
  have hl : c.1.2.length ≤ 1048576 := (sm_list (sm_of z).1.2).1
  ⟨_, cur_S c (by omega), cur_M c (by omega), Nat.le_trans (curT_len c) (by omega)⟩
end Go.Gx.Px
