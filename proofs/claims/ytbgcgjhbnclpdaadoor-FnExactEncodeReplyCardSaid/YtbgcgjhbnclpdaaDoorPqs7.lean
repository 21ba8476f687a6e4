/- Plain laws, many texts in one. Conditions: none. -/
import Derived.Test.YtbgcgjhbnclpdaaDoorPlSp
import Derived.Test.YtbgcgjhbnclpdaaDoorPlTy
set_option linter.unusedVariables false
set_option linter.unusedSimpArgs false
namespace Go.Gx.Px
abbrev Fa := Int × List Int
theorem inS (a b c : Int) : S.l1In a b c = some (inR a b c) := by
 unfold S.l1In inR
 by_cases h : b ≤ a <;> simp [h]
theorem inM (a b c : Int) : M.within a b c = some (inR a b c) := by
 unfold M.within inR
 by_cases h : b ≤ a <;> simp [h]
theorem any_not {α : Type} (l : List α) (q : α → Bool) : l.any (fun e => !q e) = !l.all q := by rw [List.all_eq_not_any_not]; simp

theorem shr7 (x : Int) (h0 : 0 ≤ x) (h1 : x < 2 ^ 62) : shr x 7 = w64 (x.tdiv 128) := by
 have h2 : x.tdiv 128 = x / 128 := Int.tdiv_eq_ediv_of_nonneg h0
 have h3 : shr x 7 = x / 128 := by
  unfold shr
  rw [Int.fdiv_eq_ediv_of_nonneg _ (by decide)]
  rfl
 rw [h2, h3, w64_id (by omega) (by omega)]
theorem w8_mod (x : Int) : w8 x = x % 256 := by
 unfold w8
 simp [IntKind.wrap, IntKind.bits, IntKind.signed]
theorem or128 (n : Nat) : ((BitVec.ofNat 8 n) ||| 128#8).toNat = 128 + n % 128 := by
 have h : ∀ b : BitVec 8, (b ||| 128#8).toNat = 128 + b.toNat % 128 := by decide +kernel
 rw [h]
 simp
theorem byte_same (x : Int) (h0 : 0 ≤ x) : UInt8.ofNat (Int.toNat (bor8 (w8 x) 128)) = u8 (w64 (128 + x.tmod 128)) := by
 have h2 : x.tmod 128 = x % 128 := Int.tmod_eq_emod_of_nonneg h0
 have h4 : w64 (128 + x.tmod 128) = 128 + x % 128 := by rw [h2, w64_id (by omega) (by omega)]
 have h5 : bor8 (w8 x) 128 = 128 + x % 128 := by
  unfold bor8
  rw [w8_eq, w8_mod, w8_mod]
  have e1 : BitVec.ofInt 8 (x % 256) = BitVec.ofNat 8 (x % 256).toNat := by
   rw [← BitVec.ofInt_natCast]; congr 1; omega
  have e2 : BitVec.ofInt 8 128 = 128#8 := rfl
  rw [e1, e2, or128]
  omega
 rw [h5, h4]
 unfold u8
 rw [w8_mod]
 congr 1
 omega
theorem Varint_same : ∀ (n : Nat) (x : Int) (l : List UInt8), 0 ≤ x → x < 2 ^ 62 → M.EncodeVarint_l1 n x l = S.EncodeVarint_l1 n x l
 | 0, _, _, _, _ => rfl
 | n + 1, x, l, h0, h1 => by
  rw [M.EncodeVarint_l1, S.EncodeVarint_l1, byte_same x h0]
  by_cases hc : 128 ≤ x
  ·rw [if_pos (by simpa using hc), if_pos (by simpa using hc), shr7 x h0 h1]
   have h2 : x.tdiv 128 = x / 128 := Int.tdiv_eq_ediv_of_nonneg h0
   have h3 : w64 (x.tdiv 128) = x / 128 := by rw [h2, w64_id (by omega) (by omega)]
   congr 1
   funext y
   rw [h3]
   exact Varint_same n (x / 128) y (by omega) (by omega)
  ·rw [if_neg (by simpa using hc), if_neg (by simpa using hc)]
def enc (n : Nat) : List UInt8 := if h : n < 128 then [UInt8.ofNat n] else UInt8.ofNat (128 + n % 128) :: enc (n / 128)
termination_by n
decreasing_by omega
theorem u8_nat (x : Int) (h0 : 0 ≤ x) (h1 : x < 256) : u8 x = UInt8.ofNat x.toNat := by
 unfold u8; rw [w8_mod]; congr 1; omega
theorem enc_len : ∀ (b x : Nat), x < 128 ^ (b + 1) → (enc x).length ≤ b + 1 := by
 intro b
 induction b with
 | zero => intro x h; rw [enc, dif_pos (by simpa using h)]; simp
 | succ b ih =>
  intro x h
  rw [enc]
  split
  ·simp
  ·rw [Nat.pow_succ] at h
   generalize 128 ^ (b + 1) = P at h ih
   have := ih (x / 128) (by omega)
   simp only [List.length_cons]; omega
theorem enc_loop : ∀ (b K x : Nat) (l : List UInt8), x < 128 ^ (b + 1) → b < K → l.length + b + 1 ≤ 4294967296 → x < 2 ^ 62 → (S.EncodeVarint_l1 K x l).bind (fun (y, m) => (app m [u8 y]).bind fun x7 => some (Str.of x7)) = some (Str.of (l ++ enc x)) := by
 intro b
 induction b with
 | zero =>
  intro K x l h hK hl _
  obtain ⟨K, rfl⟩ : ∃ k, K = k + 1 := ⟨K - 1, by omega⟩
  have h' : x < 128 := by simpa using h
  rw [S.EncodeVarint_l1, if_neg (by simp; omega), Option.bind_some]
  simp only
  rw [app_eq _ _ (by simp; omega), Option.bind_some, enc, dif_pos h', u8_nat _ (by omega) (by omega)]
  simp
 | succ b ih =>
  intro K x l h hK hl hx
  obtain ⟨K, rfl⟩ : ∃ k, K = k + 1 := ⟨K - 1, by omega⟩
  rw [S.EncodeVarint_l1]
  by_cases hc : 128 ≤ x
  ·have e1 : w64 ((x : Int).tdiv 128) = ((x / 128 : Nat) : Int) := by rw [Int.tdiv_eq_ediv_of_nonneg (by omega), w64_id (by omega) (by omega)]; omega
   have e2 : u8 (w64 (128 + (x : Int).tmod 128)) = UInt8.ofNat (128 + x % 128) := by
    rw [Int.tmod_eq_emod_of_nonneg (by omega), w64_id (by omega) (by omega), u8_nat _ (by omega) (by omega)]; congr 1
   rw [if_pos (by simp; omega), app_eq _ _ (by simp; omega), Option.bind_some, e1, e2]
   rw [Nat.pow_succ] at h
   have hp : x / 128 < 128 ^ (b + 1) := by generalize 128 ^ (b + 1) = P at h; omega
   rw [ih K (x / 128) _ hp (by omega) (by simp; omega) (by omega)]
   conv => rhs; rw [enc, dif_neg (by omega)]
   simp
  ·rw [if_neg (by simp; omega), Option.bind_some]
   simp only
   rw [app_eq _ _ (by simp; omega), Option.bind_some, enc, dif_pos (by omega), u8_nat _ (by omega) (by omega)]
   simp
theorem EncodeVarint_S (x : Nat) (h : x < 562949953421312) : S.EncodeVarint x = some (Str.of (enc x)) := by
 unfold S.EncodeVarint
 have hr : inR (x : Int) 0 562949953421311 = true := by rw [inR_iff]; omega
 rw [inS, hr, Option.bind_some, if_neg (by simp), enc_loop 6 FUEL x [] (by simpa using h) (by rw [FUEL_eq]; omega) (by simp) (by omega)]
 rfl
theorem EncodeVarint_M (x : Nat) (h : x < 562949953421312) : M.EncodeVarint x = some (Str.of (enc x)) := by
 rw [← EncodeVarint_S x h]
 unfold M.EncodeVarint S.EncodeVarint
 rw [inS, inM, Varint_same FUEL x [] (by omega) (by omega)]
def vv : List UInt8 → Nat
 | [] => 0
 | b :: l => b.toNat % 128 + 128 * vv l
def okG : Bool → List UInt8 → Bool
 | _, [] => false
 | f, [b] => decide (b.toNat < 128) && (f || decide (b.toNat ≠ 0))
 | _, b :: c :: l => decide (128 ≤ b.toNat) && okG false (c :: l)
def hD (a : List UInt8) (i : Nat) : Option (Int × Int) := if okG true (a.take (i + 1)) then some (((vv (a.take (i + 1)) : Nat) : Int), ((i + 1 : Nat) : Int)) else none
abbrev Li := List UInt8
def valsOk (l : List Int) : Bool := l.all fun n => inR n 0 9
theorem areValues_M (l : List Int) (h : l.length ≤ 4294967296) : M.areValues l = some (valsOk l) := by
 unfold M.areValues valsOk
 rw [Slices_ContainsFunc_Lint_int_M_areValues_c1_eq l (fun n => !inR n 0 9) h (fun e he => by unfold M.areValues_c1 M.isValue; rw [inM]; rfl), any_not]
 simp
theorem nil_len : List.length (str []) = 0 := rfl
theorem int_text (n : Int) (h0 : 0 ≤ n) (h1 : n ≤ 9) : ∃ r : Str, S.FormatInt n = some r ∧ List.length r = 1 := by
 unfold S.FormatInt
 by_cases hz : n = 0
 ·rw [if_pos (decide_eq_true hz)]; exact ⟨_, rfl, rfl⟩
 ·rw [if_neg (by simpa using hz)]
  have hF : FUEL = 4611686018427387902 + 1 + 1 := FUEL_eq
  have e1 : n.tmod 10 = n := by rw [Int.tmod_eq_emod_of_nonneg h0]; omega
  have e2 : w64 (n.tdiv 10) = 0 := by rw [Int.tdiv_eq_ediv_of_nonneg h0, w64_sm (by omega) (by omega)]; omega
  have hl : List.length (Str.of [u8 (w64 (48 + n))]) = 1 := rfl
  have e3 : S.FormatInt_l1 FUEL n (str []) = some (catS (Str.of [u8 (w64 (48 + n))]) (str [])) := by
   rw [hF, S.FormatInt_l1, if_pos (by simpa using hz), e1, if_neg (by simp; omega), Option.bind_some, cat_ok _ _ (by rw [hl, nil_len]; omega), Option.bind_some, e2, S.FormatInt_l1, if_neg (by simp)]
  rw [e3, Option.bind_some, if_neg (by simp; omega)]
  exact ⟨_, rfl, by rw [catS_len, hl, nil_len]⟩
theorem ints_loop (v : List Int) (hv : ∀ x ∈ v, 0 ≤ x ∧ x ≤ 9) (hl : v.length ≤ 1000) : ∀ (n K i : Nat) (t : Str), i + n = v.length → n < K → List.length t ≤ 2 * i → ∃ r : Str, S.l2List_l1 v K t (i : Int) = some r ∧ List.length r ≤ 2 * v.length := by
 intro n
 induction n with
 | zero =>
  intro K i t h1 hK ht
  obtain ⟨K, rfl⟩ : ∃ k, K = k + 1 := ⟨K - 1, by omega⟩
  obtain rfl : i = v.length := by omega
  rw [S.l2List_l1, if_neg (by simp)]
  exact ⟨t, rfl, ht⟩
 | succ n ih =>
  intro K i t h1 hK ht
  obtain ⟨K, rfl⟩ : ∃ k, K = k + 1 := ⟨K - 1, by omega⟩
  have hi : i < v.length := by omega
  obtain ⟨r, e1, e2⟩ := int_text v[i] (hv _ (List.getElem_mem hi)).1 (hv _ (List.getElem_mem hi)).2
  have hc : List.length (str [44]) = 1 := rfl
  have hx : ∃ u : Str, (if decide (0 < (i : Int)) = true then (cat t (str [44])).bind fun x5 => some x5 else some t) = some u ∧ List.length u ≤ 2 * i + 1 := by
   by_cases h0 : 0 < i
   ·rw [if_pos (decide_eq_true (by omega)), cat_ok _ _ (by rw [hc]; omega)]
    exact ⟨_, rfl, by rw [catS_len, hc]; omega⟩
   ·rw [if_neg (by simp; omega)]; exact ⟨t, rfl, by omega⟩
  obtain ⟨u, u1, u2⟩ := hx
  rw [S.l2List_l1, if_pos (decide_eq_true (by omega)), u1, Option.bind_some, idx_nat v hi, Option.bind_some, e1, Option.bind_some, cat_ok _ _ (by omega), Option.bind_some, w64_succ (by omega)]
  exact ih K (i + 1) _ (by omega) (by omega) (by rw [catS_len]; omega)
theorem ints_text (v : List Int) (hv : ∀ x ∈ v, 0 ≤ x ∧ x ≤ 9) (hl : v.length ≤ 1000) : ∃ r : Str, S.l2List v = some r ∧ List.length r ≤ 2 * v.length := by
 obtain ⟨r, h1, h2⟩ := ints_loop v hv hl v.length FUEL 0 (str []) (by omega) (by rw [FUEL_eq]; omega) (by rw [nil_len]; omega)
 have h1' : S.l2List_l1 v FUEL (str []) 0 = some r := h1
 unfold S.l2List
 rw [h1']
 exact ⟨r, rfl, h2⟩
theorem all_in {v : List Int} (h : (v.all fun x => inR x 0 9) = true) : ∀ x ∈ v, 0 ≤ x ∧ x ≤ 9 := fun x hx => inR_iff.1 (List.all_eq_true.1 h x hx)
def okF (f : Fa) : Bool := inR f.1 0 2 && (inR (f.2.length : Int) 1 3 && valsOk f.2)
theorem not_nil {t : Str} (h : 0 < List.length t) : ¬ t = str [] := by rintro rfl; rw [nil_len] at h; omega
theorem fact_S (f : Fa) (hf : f.2.length ≤ 4294967296) : ∃ t : Str, S.FormatFact f = some t ∧ (t = str [] ↔ okF f = false) := by
 unfold S.FormatFact okF
 rw [inS, inS]
 cases h1 : inR f.1 0 2
 ·exact ⟨_, rfl, by simp⟩
 ·cases h2 : inR (f.2.length : Int) 1 3
  ·exact ⟨_, rfl, by simp⟩
  ·simp only [Option.bind_some, Bool.not_true, Bool.false_eq_true, if_false]
   rw [all_loop (S.FormatFact_l1 f) f.2 (fun x => inR x 0 9) (str []) hf (fun k => by rw [S.FormatFact_l1, if_neg (by simp)]) (fun k i hi => by
    rw [S.FormatFact_l1, if_pos (decide_eq_true (by omega)), idx_nat _ hi, Option.bind_some, inS, Option.bind_some, w64_succ (by omega)]
    cases inR f.2[i] 0 9 <;> rfl)]
   cases h3 : f.2.all fun x => inR x 0 9
   ·exact ⟨_, rfl, by simp [valsOk, h3]⟩
   ·rw [inR_iff] at h1 h2
    obtain ⟨r1, a1, b1⟩ := int_text f.1 (by omega) (by omega)
    obtain ⟨r2, a2, b2⟩ := ints_text f.2 (all_in h3) (by omega)
    have l1 : List.length (str [114]) = 1 := rfl
    have l2 : List.length (str [40]) = 1 := rfl
    have l3 : List.length (str [41]) = 1 := rfl
    simp only [Option.bind_some, if_true]
    rw [a1, Option.bind_some, cat_ok _ _ (by omega), Option.bind_some, cat_ok _ _ (by rw [catS_len]; omega), Option.bind_some, a2, Option.bind_some, cat_ok _ _ (by rw [catS_len, catS_len]; omega), Option.bind_some, cat_ok _ _ (by rw [catS_len, catS_len, catS_len]; omega)]
    refine ⟨_, rfl, ?_⟩
    have hn : ¬ catS (catS (catS (catS (str [114]) r1) (str [40])) r2) (str [41]) = str [] := not_nil (by rw [catS_len]; omega)
    simp [valsOk, h3, hn]
def digL (n : Int) : Li := [UInt8.ofNat (48 + n.toNat)]
def dig (n : Int) : Str := digL n
theorem itoa_M (n : Int) (h0 : 0 ≤ n) (h1 : n ≤ 9) : M.FormatInt n = some (Str.of [UInt8.ofNat (48 + n.toNat)]) := by
 have e : itoaS n = some (dig n) := by
  unfold itoaS
  rw [if_pos ⟨h0, by omega⟩]
  have e2 : Lib.decDigits n.toNat = digL n := by rw [Lib.decDigits, dif_pos (by omega)]; rfl
  exact congrArg some e2
 unfold M.FormatInt Strconv.Itoa
 rw [e]; rfl
theorem lens_dig : ∀ l : List Int, Lib.lens (l.map digL) = l.length
 | [] => rfl
 | a :: l => by
  have := lens_dig l
  unfold Lib.lens at *
  rw [List.map_cons, List.map_cons, List.sum_cons, this, List.length_cons]
  have : (digL a).length = 1 := rfl
  omega
theorem join_len (l : List Int) (s : Li) (hs : s.length = 1) : (Lib.join (l.map digL) s).length ≤ 2 * l.length := by
 cases l with
 | nil => exact Nat.le_refl _
 | cons a l =>
  rw [List.map_cons, Lib.join_length, ← List.map_cons, lens_dig, hs, List.length_map, List.length_cons]; omega
theorem joined_M (l : List Int) (hl : l.length ≤ 3) (hv : ∀ x ∈ l, 0 ≤ x ∧ x ≤ 9) : ∃ r : Str, M.joined l (str [44]) = some r ∧ List.length r ≤ 6 := by
 have hj := join_len l [44] rfl
 unfold M.joined
 rw [map_loop (M.joined_l1 l) l dig (by omega) (fun k x => by rw [M.joined_l1, if_neg (by simp)]) (fun k x i hi hx => by
  rw [M.joined_l1, if_pos (decide_eq_true (by omega)), idx_nat l hi, Option.bind_some, itoa_M _ (hv _ (List.getElem_mem hi)).1 (hv _ (List.getElem_mem hi)).2, Option.bind_some, app_eq _ _ (by simp; omega), Option.bind_some, w64_succ (by omega)]; rfl), Option.bind_some]
 unfold Strings.Join
 have e : joinS (l.map dig) (str [44]) = some (Lib.join (l.map digL) [44]) := by
  unfold joinS
  exact if_pos ⟨by rw [List.length_map]; omega, Nat.le_trans hj (by omega)⟩
 rw [e]
 exact ⟨_, rfl, Nat.le_trans hj (by omega)⟩
theorem fact_M (f : Fa) (hf : f.2.length ≤ 4294967296) : ∃ t : Str, M.FormatFact f = some t ∧ (t = str [] ↔ okF f = false) := by
 unfold M.FormatFact M.isRel okF
 rw [inM, inM]
 cases h1 : inR f.1 0 2
 ·exact ⟨_, rfl, by simp⟩
 ·cases h2 : inR (f.2.length : Int) 1 3
  ·exact ⟨_, rfl, by simp⟩
  ·rw [areValues_M _ hf]
   cases h3 : valsOk f.2
   ·exact ⟨_, rfl, by simp⟩
   ·rw [inR_iff] at h1 h2
    obtain ⟨r2, a2, b2⟩ := joined_M f.2 (by omega) (all_in h3)
    have a1 := itoa_M f.1 (by omega) (by omega)
    have l0 : List.length (Str.of [UInt8.ofNat (48 + f.1.toNat)]) = 1 := rfl
    have l1 : List.length (str [114]) = 1 := rfl
    have l2 : List.length (str [40]) = 1 := rfl
    have l3 : List.length (str [41]) = 1 := rfl
    simp only [Option.bind_some, Bool.not_true, Bool.false_eq_true, if_false, if_true]
    rw [a1, Option.bind_some, cat_ok _ _ (by omega), Option.bind_some, cat_ok _ _ (by rw [catS_len]; omega), Option.bind_some, a2, Option.bind_some, cat_ok _ _ (by rw [catS_len, catS_len]; omega), Option.bind_some, cat_ok _ _ (by rw [catS_len, catS_len, catS_len]; omega)]
    refine ⟨_, rfl, ?_⟩
    have hn : ¬ catS (catS (catS (catS (str [114]) (Str.of [UInt8.ofNat (48 + f.1.toNat)])) (str [40])) r2) (str [41]) = str [] := not_nil (by rw [catS_len]; omega)
    exact ⟨fun h => absurd h hn, fun h => by simp at h⟩
def encI (n : Int) : Li := if 0 ≤ n ∧ n ≤ 562949953421311 then enc n.toNat else []
def encL (l : List Int) : Li := l.flatMap encI
theorem encI_len (n : Int) : (encI n).length ≤ 7 := by
 unfold encI
 split
 ·exact enc_len 6 _ (by simp; omega)
 ·simp
theorem encL_len : ∀ l : List Int, (encL l).length ≤ 7 * l.length
 | [] => by simp [encL]
 | a :: l => by
  have h1 := encI_len a
  have h2 := encL_len l
  have e : encL (a :: l) = encI a ++ encL l := rfl
  rw [e, List.length_append, List.length_cons]; omega
theorem ev_S (n : Int) : S.EncodeVarint n = some (str (encI n)) := by
 unfold encI
 split
 ·rename_i h
  obtain ⟨m, rfl⟩ : ∃ m : Nat, n = m := ⟨n.toNat, by omega⟩
  exact EncodeVarint_S m (by omega)
 ·rename_i h
  have hr : inR n 0 562949953421311 = false := by
   rw [Bool.eq_false_iff]; intro hh; exact h (inR_iff.1 hh)
  unfold S.EncodeVarint
  rw [inS, hr]; rfl
theorem ev_M (n : Int) : M.EncodeVarint n = some (str (encI n)) := by
 unfold encI
 split
 ·rename_i h
  obtain ⟨m, rfl⟩ : ∃ m : Nat, n = m := ⟨n.toNat, by omega⟩
  exact EncodeVarint_M m (by omega)
 ·rename_i h
  have hr : inR n 0 562949953421311 = false := by
   rw [Bool.eq_false_iff]; intro hh; exact h (inR_iff.1 hh)
  unfold M.EncodeVarint
  rw [inM, hr]; rfl
theorem varints_l_M : ∀ (l : List Int) (o : Li), o.length + 7 * l.length ≤ 1000000 → M.varints_l (str o) l = some (str (o ++ encL l))
 | [], o, h => by show some (str o) = some (str (o ++ [])); rw [List.append_nil]
 | a :: l, o, h => by
  have h1 := encI_len a
  rw [List.length_cons] at h
  have e : List.length (str o) + List.length (str (encI a)) ≤ 1000000 := by show o.length + (encI a).length ≤ _; omega
  rw [M.varints_l, ev_M, Option.bind_some, if_pos e]
  have := varints_l_M l (o ++ encI a) (by rw [List.length_append]; omega)
  rw [show o ++ encL (a :: l) = o ++ encI a ++ encL l by rw [List.append_assoc]; rfl]
  exact this
theorem varints_M (l : List Int) (h : l.length ≤ 100000) : M.varints l = some (str (encL l)) := varints_l_M l [] (by simp; omega)
theorem cat_str (a b : Li) (h : a.length + b.length ≤ 4294967296) : cat (str a) (str b) = some (str (a ++ b)) := cat_ok a b h
theorem okF_len {f : Fa} (h : okF f = true) : 1 ≤ f.2.length ∧ f.2.length ≤ 3 := by
 unfold okF at h
 simp only [Bool.and_eq_true, inR_iff] at h
 omega
theorem dec_iff {t : Str} {b : Bool} (h : t = str [] ↔ b = false) : decide (t = str []) = !b := by
 cases b
 ·exact decide_eq_true (h.2 rfl)
 ·exact decide_eq_false fun e => by have := h.1 e; cases this
def repF (f : Fa) : Li := encL (f.1 :: (f.2.length : Int) :: f.2)
def repB (l : List Fa) : Li := encI (l.length : Int) ++ l.flatMap repF
def repT (l : List Fa) : Li := if l.length ≤ 24 ∧ (l.all okF) = true then repB l else []
theorem repF_len {f : Fa} (h : okF f = true) : (repF f).length ≤ 35 := by
 have := okF_len h
 have h2 := encL_len (f.1 :: (f.2.length : Int) :: f.2)
 unfold repF
 simp only [List.length_cons] at h2
 omega
theorem rep_S2 (l : List Fa) (j : Nat) (hj : j < l.length) (hf : l[j].2.length ≤ 3) : ∀ (n K i : Nat) (t : Li), i + n = l[j].2.length → n < K → t.length + 7 * n ≤ 4000000 → S.EncodeReply_l2 l (j : Int) K (str t) (i : Int) = some (str (t ++ encL (l[j].2.drop i))) := by
 intro n
 induction n with
 | zero =>
  intro K i t h1 hK ht
  obtain ⟨K, rfl⟩ : ∃ k, K = k + 1 := ⟨K - 1, by omega⟩
  rw [S.EncodeReply_l2, idx_nat l hj, Option.bind_some, if_neg (by simp; omega), List.drop_of_length_le (by omega)]
  show some (str t) = some (str (t ++ [])); rw [List.append_nil]
 | succ n ih =>
  intro K i t h1 hK ht
  obtain ⟨K, rfl⟩ : ∃ k, K = k + 1 := ⟨K - 1, by omega⟩
  have hi : i < l[j].2.length := by omega
  have hl := encI_len l[j].2[i]
  rw [S.EncodeReply_l2, idx_nat l hj, Option.bind_some, if_pos (decide_eq_true (by omega)), Option.bind_some, idx_nat _ hi, Option.bind_some, ev_S, Option.bind_some, cat_str _ _ (by omega), Option.bind_some, w64_succ (by omega), ih K (i + 1) _ (by omega) (by omega) (by rw [List.length_append]; omega), List.drop_eq_getElem_cons hi, List.append_assoc]
  rfl
theorem rep_S1 (l : List Fa) (hl : l.length ≤ 24) (hf : ∀ f ∈ l, f.2.length ≤ 4294967296) : ∀ (n K i : Nat) (t : Li), i + n = l.length → n < K → t.length + 35 * n ≤ 1000000 → S.EncodeReply_l1 l K (str t) (i : Int) = some (if (l.drop i).all okF then .inl (str (t ++ (l.drop i).flatMap repF)) else .inr (str [])) := by
 intro n
 induction n with
 | zero =>
  intro K i t h1 hK ht
  obtain ⟨K, rfl⟩ : ∃ k, K = k + 1 := ⟨K - 1, by omega⟩
  rw [S.EncodeReply_l1, if_neg (by simp; omega), List.drop_of_length_le (by omega)]
  show some (Sum.inl (str t)) = some (Sum.inl (str (t ++ []))); rw [List.append_nil]
 | succ n ih =>
  intro K i t h1 hK ht
  obtain ⟨K, rfl⟩ : ∃ k, K = k + 1 := ⟨K - 1, by omega⟩
  have hi : i < l.length := by omega
  obtain ⟨u, e0, hu⟩ := fact_S l[i] (hf _ (List.getElem_mem hi))
  rw [S.EncodeReply_l1, if_pos (decide_eq_true (by omega)), idx_nat l hi, Option.bind_some, e0, Option.bind_some, dec_iff hu, List.drop_eq_getElem_cons hi, List.all_cons, List.flatMap_cons]
  cases ho : okF l[i]
  ·rfl
  ·have h3 := okF_len ho
   have h4 := repF_len ho
   have h5 := encI_len l[i].1
   have h6 := encI_len (l[i].2.length : Int)
   have h7 := rep_S2 l i hi h3.2 l[i].2.length FUEL 0 (t ++ encI l[i].1 ++ encI (l[i].2.length : Int)) (by omega) (by rw [FUEL_eq]; omega) (by simp only [List.length_append]; omega)
   have h7' : S.EncodeReply_l2 l (i : Int) FUEL (str (t ++ encI l[i].1 ++ encI (l[i].2.length : Int))) 0 = _ := h7
   simp only [Bool.not_true, Bool.false_eq_true, if_false, Option.bind_some, Bool.true_and]
   rw [ev_S, Option.bind_some, cat_str _ _ (by omega), Option.bind_some, ev_S, Option.bind_some, cat_str _ _ (by rw [List.length_append]; omega), Option.bind_some, h7', Option.bind_some, w64_succ (by omega), List.drop_zero]
   have e : t ++ encI l[i].1 ++ encI (l[i].2.length : Int) ++ encL l[i].2 = t ++ repF l[i] := by rw [List.append_assoc, List.append_assoc]; rfl
   rw [e, ih K (i + 1) _ (by omega) (by omega) (by rw [List.length_append]; omega), List.append_assoc]
theorem rep_M1 (l : List Fa) (hl : l.length ≤ 24) (hf : ∀ f ∈ l, f.2.length ≤ 4294967296) : ∀ (n K i : Nat) (t : Li), i + n = l.length → n < K → t.length + 35 * n ≤ 1000000 → M.EncodeReply_l1 l K (str t) (i : Int) = some (if (l.drop i).all okF then .inl (str (t ++ (l.drop i).flatMap repF)) else .inr (str [])) := by
 intro n
 induction n with
 | zero =>
  intro K i t h1 hK ht
  obtain ⟨K, rfl⟩ : ∃ k, K = k + 1 := ⟨K - 1, by omega⟩
  rw [M.EncodeReply_l1, if_neg (by simp; omega), List.drop_of_length_le (by omega)]
  show some (Sum.inl (str t)) = some (Sum.inl (str (t ++ []))); rw [List.append_nil]
 | succ n ih =>
  intro K i t h1 hK ht
  obtain ⟨K, rfl⟩ : ∃ k, K = k + 1 := ⟨K - 1, by omega⟩
  have hi : i < l.length := by omega
  obtain ⟨u, e0, hu⟩ := fact_M l[i] (hf _ (List.getElem_mem hi))
  have e0' : M.FormatFact (l[i].1, l[i].2) = some u := e0
  rw [M.EncodeReply_l1, if_pos (decide_eq_true (by omega)), idx_nat l hi, Option.bind_some, e0', Option.bind_some, dec_iff hu, List.drop_eq_getElem_cons hi, List.all_cons, List.flatMap_cons]
  cases ho : okF l[i]
  ·rfl
  ·have h3 := okF_len ho
   have h4 := repF_len ho
   have h5 := encL_len [l[i].1, (l[i].2.length : Int)]
   have h6 := encL_len l[i].2
   simp only [List.length_cons, List.length_nil] at h5
   simp only [Bool.not_true, Bool.false_eq_true, if_false, Option.bind_some, Bool.true_and]
   have e : encL [l[i].1, (l[i].2.length : Int)] ++ encL l[i].2 = repF l[i] := by
    show ([l[i].1, (l[i].2.length : Int)].flatMap encI) ++ l[i].2.flatMap encI = (([l[i].1, (l[i].2.length : Int)] ++ l[i].2).flatMap encI)
    rw [List.flatMap_append]
   rw [varints_M _ (by simp), Option.bind_some, varints_M _ (by omega), Option.bind_some, cat_str _ _ (by omega), Option.bind_some, e, cat_str _ _ (by omega), Option.bind_some, w64_succ (by omega)]
   rw [ih K (i + 1) _ (by omega) (by omega) (by rw [List.length_append]; omega), List.append_assoc]
theorem EncodeReply_S (l : List Fa) (hf : ∀ f ∈ l, f.2.length ≤ 4294967296) : S.EncodeReply l = some (str (repT l)) := by
 unfold S.EncodeReply repT
 by_cases hl : l.length ≤ 24
 ·have h1 := encI_len (l.length : Int)
  rw [if_neg (by simp; omega), ev_S, Option.bind_some]
  have h2 := rep_S1 l hl hf l.length FUEL 0 (encI (l.length : Int)) (by omega) (by rw [FUEL_eq]; omega) (by omega)
  have h2' : S.EncodeReply_l1 l FUEL (str (encI (l.length : Int))) 0 = _ := h2
  rw [h2', Option.bind_some, List.drop_zero]
  cases h3 : l.all okF
  ·rw [if_neg (by simp), if_neg (by simp)]
  ·rw [if_pos rfl, if_pos ⟨hl, rfl⟩]; rfl
 ·rw [if_pos (by simp; omega), if_neg (by omega)]
theorem EncodeReply_M (l : List Fa) (hf : ∀ f ∈ l, f.2.length ≤ 4294967296) : M.EncodeReply l = some (str (repT l)) := by
 unfold M.EncodeReply repT
 by_cases hl : l.length ≤ 24
 ·have h1 := encI_len (l.length : Int)
  have e : encL [(l.length : Int)] = encI (l.length : Int) := List.append_nil _
  rw [if_neg (by simp; omega), varints_M _ (by simp), Option.bind_some, e]
  have h2 := rep_M1 l hl hf l.length FUEL 0 (encI (l.length : Int)) (by omega) (by rw [FUEL_eq]; omega) (by omega)
  have h2' : M.EncodeReply_l1 l FUEL (str (encI (l.length : Int))) 0 = _ := h2
  rw [h2', Option.bind_some, List.drop_zero]
  cases h3 : l.all okF
  ·rw [if_neg (by simp), if_neg (by simp)]
  ·rw [if_pos rfl, if_pos ⟨hl, rfl⟩]; rfl
 ·rw [if_pos (by simp; omega), if_neg (by omega)]
theorem flat_len {α : Type} (g : α → Li) (m : Nat) : ∀ l : List α, (∀ a ∈ l, (g a).length ≤ m) → (l.flatMap g).length ≤ m * l.length
 | [], _ => by simp
 | a :: l, h => by
  have h1 := h a (by simp)
  have h2 := flat_len g m l (fun b hb => h b (by simp [hb]))
  rw [List.flatMap_cons, List.length_append, List.length_cons, Nat.mul_add]; omega
theorem repT_len (l : List Fa) : (repT l).length ≤ 1000 := by
 unfold repT
 split
 ·rename_i h
  have h1 := encI_len (l.length : Int)
  have h2 := flat_len repF 35 l (fun f hf => repF_len (List.all_eq_true.1 h.2 f hf))
  unfold repB
  rw [List.length_append]; omega
 ·simp
theorem facts_len {l : List Fa} (h : SZ.sm l) : ∀ f ∈ l, f.2.length ≤ 4294967296 := fun f hf => by
 have h1 : SZ.sm f := (sm_list h).2 f hf
 have h2 : f.2.length ≤ 1048576 := (sm_list h1.2).1
 omega
theorem same_EncodeReply (l : List Fa) (z : SZ.sz l ≤ 1048576) (_ : Rng.r l) : ∃ r, S.EncodeReply l = some r ∧ M.EncodeReply l = some r ∧ SZ.sm r :=
 ⟨_, EncodeReply_S l (facts_len (sm_of z)), EncodeReply_M l (facts_len (sm_of z)), Nat.le_trans (repT_len l) (by omega)⟩

end Go.Gx.Px
