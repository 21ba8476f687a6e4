/- Plain laws: frames: the law. Conditions: none. -/
import Derived.Test.YtojmmbafoakfkaaPdw
set_option linter.unusedVariables false
set_option linter.unusedSimpArgs false
namespace Go.Gx.Px
/-! texts -/
theorem nil_len : List.length (str []) = 0 := rfl
theorem int_text (n : Int) (h0 : 0 ≤ n) (h1 : n ≤ 9) : ∃ r : Str, S.FormatInt n = some r ∧ List.length r = 1 := by
  unfold S.FormatInt
  by_cases hz : n = 0
  · rw [if_pos (decide_eq_true hz)]; exact ⟨_, rfl, rfl⟩
  · rw [if_neg (by simpa using hz)]
    have hF : FUEL = 4611686018427387902 + 1 + 1 := FUEL_eq
    have e1 : n.tmod 10 = n := by rw [Int.tmod_eq_emod_of_nonneg h0]; omega
    have e2 : w64 (n.tdiv 10) = 0 := by rw [Int.tdiv_eq_ediv_of_nonneg h0, w64_sm (by omega) (by omega)]; omega
    have hl : List.length (Str.of [u8 (w64 (48 + n))]) = 1 := rfl
    have e3 : S.FormatInt_l1 FUEL n (str []) = some (catS (Str.of [u8 (w64 (48 + n))]) (str [])) := by
      rw [hF, S.FormatInt_l1, if_pos (by simpa using hz), e1, if_neg (by simp; omega), Option.bind_some, cat_ok _ _ (by rw [hl, nil_len]; omega), Option.bind_some, e2, S.FormatInt_l1, if_neg (by simp)]
    rw [e3, Option.bind_some, if_neg (by simp; omega)]
    exact ⟨_, rfl, by rw [catS_len, hl, nil_len]⟩
theorem ints_loop (v : List Int) (hv : ∀ x ∈ v, 0 ≤ x ∧ x ≤ 9) (hl : v.length ≤ 1000) : ∀ (n K i : Nat) (t : Str), i + n = v.length → n < K → List.length t ≤ 2 * i → ∃ r : Str, S.l2List_l1 v K t (i : Int) = some r ∧ List.length r ≤ 2 * v.length := by
  intro n
  induction n with
  | zero =>
    intro K i t h1 hK ht
    obtain ⟨K, rfl⟩ : ∃ k, K = k + 1 := ⟨K - 1, by omega⟩
    obtain rfl : i = v.length := by omega
    rw [S.l2List_l1, if_neg (by simp)]
    exact ⟨t, rfl, ht⟩
  | succ n ih =>
    intro K i t h1 hK ht
    obtain ⟨K, rfl⟩ : ∃ k, K = k + 1 := ⟨K - 1, by omega⟩
    have hi : i < v.length := by omega
    obtain ⟨r, e1, e2⟩ := int_text v[i] (hv _ (List.getElem_mem hi)).1 (hv _ (List.getElem_mem hi)).2
    have hc : List.length (str [44]) = 1 := rfl
    have hx : ∃ u : Str, (if decide (0 < (i : Int)) = true then (cat t (str [44])).bind fun x5 => some x5 else some t) = some u ∧ List.length u ≤ 2 * i + 1 := by
      by_cases h0 : 0 < i
      · rw [if_pos (decide_eq_true (by omega)), cat_ok _ _ (by rw [hc]; omega)]
        exact ⟨_, rfl, by rw [catS_len, hc]; omega⟩
      · rw [if_neg (by simp; omega)]; exact ⟨t, rfl, by omega⟩
    obtain ⟨u, u1, u2⟩ := hx
    rw [S.l2List_l1, if_pos (decide_eq_true (by omega)), u1, Option.bind_some, idx_nat v hi, Option.bind_some, e1, Option.bind_some, cat_ok _ _ (by omega), Option.bind_some, w64_succ (by omega)]
    exact ih K (i + 1) _ (by omega) (by omega) (by rw [catS_len]; omega)
theorem ints_text (v : List Int) (hv : ∀ x ∈ v, 0 ≤ x ∧ x ≤ 9) (hl : v.length ≤ 1000) : ∃ r : Str, S.l2List v = some r ∧ List.length r ≤ 2 * v.length := by
  obtain ⟨r, h1, h2⟩ := ints_loop v hv hl v.length FUEL 0 (str []) (by omega) (by rw [FUEL_eq]; omega) (by rw [nil_len]; omega)
  have h1' : S.l2List_l1 v FUEL (str []) 0 = some r := h1
  unfold S.l2List
  rw [h1']
  exact ⟨r, rfl, h2⟩
theorem all_in {v : List Int} (h : (v.all fun x => inR x 0 9) = true) : ∀ x ∈ v, 0 ≤ x ∧ x ≤ 9 := fun x hx => inR_iff.1 (List.all_eq_true.1 h x hx)
theorem access_text (f : Fa) (hf : f.2.length ≤ 101) : ∃ r : Str, S.FormatAccess f = some r := by
  unfold S.FormatAccess
  rw [inS]
  cases h1 : inR f.1 0 4
  · exact ⟨_, rfl⟩
  · by_cases h2 : (3 : Int) < (f.2.length : Int)
    · rw [decide_eq_true h2]; exact ⟨_, rfl⟩
    · rw [decide_eq_false h2]
      rw [all_loop (S.FormatAccess_l1 f) f.2 (fun x => inR x 0 9) (str []) (by omega) (fun k => by rw [S.FormatAccess_l1, if_neg (by simp)]) (fun k i hi => by
        rw [S.FormatAccess_l1, if_pos (decide_eq_true (by omega)), idx_nat _ hi, Option.bind_some, inS, Option.bind_some, w64_succ (by omega)]
        cases inR f.2[i] 0 9 <;> rfl)]
      cases h3 : f.2.all fun x => inR x 0 9
      · exact ⟨_, rfl⟩
      · rw [inR_iff] at h1
        obtain ⟨r1, a1, b1⟩ := int_text f.1 (by omega) (by omega)
        obtain ⟨r2, a2, b2⟩ := ints_text f.2 (all_in h3) (by omega)
        have l1 : List.length (str [109]) = 1 := rfl
        have l2 : List.length (str [40]) = 1 := rfl
        have l3 : List.length (str [41]) = 1 := rfl
        simp only [Option.bind_some, Bool.not_true, Bool.false_eq_true, if_false, if_true]
        rw [a1, Option.bind_some, cat_ok _ _ (by omega), Option.bind_some, cat_ok _ _ (by rw [catS_len]; omega), Option.bind_some, a2, Option.bind_some, cat_ok _ _ (by rw [catS_len, catS_len]; omega), Option.bind_some, cat_ok _ _ (by rw [catS_len, catS_len, catS_len]; omega)]
        exact ⟨_, rfl⟩
theorem fact_text (f : Fa) (hf : f.2.length ≤ 101) : ∃ r : Str, S.FormatFact f = some r := by
  unfold S.FormatFact
  rw [inS, inS]
  cases h1 : inR f.1 0 2
  · exact ⟨_, rfl⟩
  · cases h2 : inR (f.2.length : Int) 1 3
    · exact ⟨_, rfl⟩
    · simp only [Option.bind_some, Bool.not_true, Bool.false_eq_true, if_false]
      rw [all_loop (S.FormatFact_l1 f) f.2 (fun x => inR x 0 9) (str []) (by omega) (fun k => by rw [S.FormatFact_l1, if_neg (by simp)]) (fun k i hi => by
        rw [S.FormatFact_l1, if_pos (decide_eq_true (by omega)), idx_nat _ hi, Option.bind_some, inS, Option.bind_some, w64_succ (by omega)]
        cases inR f.2[i] 0 9 <;> rfl)]
      cases h3 : f.2.all fun x => inR x 0 9
      · exact ⟨_, rfl⟩
      · rw [inR_iff] at h1
        obtain ⟨r1, a1, b1⟩ := int_text f.1 (by omega) (by omega)
        obtain ⟨r2, a2, b2⟩ := ints_text f.2 (all_in h3) (by omega)
        have l1 : List.length (str [114]) = 1 := rfl
        have l2 : List.length (str [40]) = 1 := rfl
        have l3 : List.length (str [41]) = 1 := rfl
        simp only [Option.bind_some, if_true]
        rw [a1, Option.bind_some, cat_ok _ _ (by omega), Option.bind_some, cat_ok _ _ (by rw [catS_len]; omega), Option.bind_some, a2, Option.bind_some, cat_ok _ _ (by rw [catS_len, catS_len]; omega), Option.bind_some, cat_ok _ _ (by rw [catS_len, catS_len, catS_len]; omega)]
        exact ⟨_, rfl⟩
theorem varint_text (x : Int) : ∃ r : Str, S.EncodeVarint x = some r ∧ List.length r ≤ 7 := by
  by_cases h : 0 ≤ x ∧ x ≤ 562949953421311
  · obtain ⟨n, rfl⟩ : ∃ n : Nat, x = n := ⟨x.toNat, by omega⟩
    exact ⟨_, EncodeVarint_S n (by omega), enc_len 6 n (by simp; omega)⟩
  · unfold S.EncodeVarint
    have hr : inR x 0 562949953421311 = false := by
      rw [Bool.eq_false_iff]; intro hh; exact h (inR_iff.1 hh)
    rw [inS, hr]
    exact ⟨_, rfl, by rw [nil_len]; omega⟩
theorem req_loop (f : Fa) (hf : f.2.length ≤ 101) : ∀ (n K i : Nat) (t : Str), i + n = f.2.length → n < K → List.length t + 7 * n ≤ 4000000 → ∃ r : Str, S.EncodeRequest_l1 f K t (i : Int) = some r ∧ List.length r ≤ List.length t + 7 * n := by
  intro n
  induction n with
  | zero =>
    intro K i t h1 hK ht
    obtain ⟨K, rfl⟩ : ∃ k, K = k + 1 := ⟨K - 1, by omega⟩
    rw [S.EncodeRequest_l1, if_neg (by simp; omega)]
    exact ⟨t, rfl, by omega⟩
  | succ n ih =>
    intro K i t h1 hK ht
    obtain ⟨K, rfl⟩ : ∃ k, K = k + 1 := ⟨K - 1, by omega⟩
    have hi : i < f.2.length := by omega
    obtain ⟨r, e1, e2⟩ := varint_text f.2[i]
    have hc := catS_len t r
    rw [S.EncodeRequest_l1, if_pos (decide_eq_true (by omega)), idx_nat _ hi, Option.bind_some, e1, Option.bind_some, cat_ok _ _ (by omega), Option.bind_some, w64_succ (by omega)]
    obtain ⟨u, u1, u2⟩ := ih K (i + 1) (catS t r) (by omega) (by omega) (by omega)
    exact ⟨u, u1, by omega⟩
theorem req_text (f : Fa) (n : Int) (hf : f.2.length ≤ 101) : ∃ r : Str, S.EncodeRequest f n = some r ∧ List.length r ≤ 1000 := by
  obtain ⟨t, e0⟩ := access_text f hf
  unfold S.EncodeRequest
  rw [show (f.1, f.2) = f from rfl, e0, Option.bind_some, inS]
  by_cases ht : t = str []
  · rw [if_pos (decide_eq_true ht)]; exact ⟨_, rfl, by rw [nil_len]; omega⟩
  · rw [if_neg (by simpa using ht)]
    cases inR n 1 9
    · exact ⟨_, rfl, by rw [nil_len]; omega⟩
    · obtain ⟨r1, a1, b1⟩ := varint_text f.1
      obtain ⟨r2, a2, b2⟩ := varint_text n
      obtain ⟨r3, a3, b3⟩ := varint_text (f.2.length : Int)
      have c1 := catS_len r1 r2
      have c2 := catS_len (catS r1 r2) r3
      obtain ⟨r4, a4, b4⟩ := req_loop f hf f.2.length FUEL 0 (catS (catS r1 r2) r3) (by omega) (by rw [FUEL_eq]; omega) (by omega)
      have a4' : S.EncodeRequest_l1 f FUEL (catS (catS r1 r2) r3) 0 = some r4 := a4
      simp only [Option.bind_some, Bool.not_true, Bool.false_eq_true, if_false]
      rw [a1, Option.bind_some, a2, Option.bind_some, cat_ok _ _ (by omega), Option.bind_some, a3, Option.bind_some, cat_ok _ _ (by omega), Option.bind_some, a4', Option.bind_some]
      exact ⟨r4, rfl, by omega⟩
theorem rep_loop2 (l : List Fa) (j : Nat) (hj : j < l.length) (hf : l[j].2.length ≤ 101) : ∀ (n K i : Nat) (t : Str), i + n = l[j].2.length → n < K → List.length t + 7 * n ≤ 4000000 → ∃ r : Str, S.EncodeReply_l2 l (j : Int) K t (i : Int) = some r ∧ List.length r ≤ List.length t + 7 * n := by
  intro n
  induction n with
  | zero =>
    intro K i t h1 hK ht
    obtain ⟨K, rfl⟩ : ∃ k, K = k + 1 := ⟨K - 1, by omega⟩
    rw [S.EncodeReply_l2, idx_nat l hj, Option.bind_some, if_neg (by simp; omega)]
    exact ⟨t, rfl, by omega⟩
  | succ n ih =>
    intro K i t h1 hK ht
    obtain ⟨K, rfl⟩ : ∃ k, K = k + 1 := ⟨K - 1, by omega⟩
    have hi : i < l[j].2.length := by omega
    obtain ⟨r, e1, e2⟩ := varint_text l[j].2[i]
    have hc := catS_len t r
    rw [S.EncodeReply_l2, idx_nat l hj, Option.bind_some, if_pos (decide_eq_true (by omega)), Option.bind_some, idx_nat _ hi, Option.bind_some, e1, Option.bind_some, cat_ok _ _ (by omega), Option.bind_some, w64_succ (by omega)]
    obtain ⟨u, u1, u2⟩ := ih K (i + 1) (catS t r) (by omega) (by omega) (by omega)
    exact ⟨u, u1, by omega⟩
theorem rep_loop (l : List Fa) (hl : l.length ≤ 100) (hf : ∀ f ∈ l, f.2.length ≤ 101) : ∀ (n K i : Nat) (t : Str), i + n = l.length → n < K → List.length t + 1000 * n ≤ 1000000 → ∃ r : Sum Str Str, S.EncodeReply_l1 l K t (i : Int) = some r ∧ (∀ x, r = .inl x → List.length x ≤ List.length t + 1000 * n) ∧ (∀ x, r = .inr x → List.length x = 0) := by
  intro n
  induction n with
  | zero =>
    intro K i t h1 hK ht
    obtain ⟨K, rfl⟩ : ∃ k, K = k + 1 := ⟨K - 1, by omega⟩
    rw [S.EncodeReply_l1, if_neg (by simp; omega)]
    exact ⟨.inl t, rfl, fun x hx => (by cases hx; omega), fun x hx => (by cases hx)⟩
  | succ n ih =>
    intro K i t h1 hK ht
    obtain ⟨K, rfl⟩ : ∃ k, K = k + 1 := ⟨K - 1, by omega⟩
    have hi : i < l.length := by omega
    have hfi := hf _ (List.getElem_mem hi)
    obtain ⟨u, e0⟩ := fact_text l[i] hfi
    rw [S.EncodeReply_l1, if_pos (decide_eq_true (by omega)), idx_nat l hi, Option.bind_some, e0, Option.bind_some]
    by_cases hu : u = str []
    · rw [if_pos (decide_eq_true hu)]
      exact ⟨.inr (str []), rfl, fun x hx => (by cases hx), fun x hx => (by cases hx; exact nil_len)⟩
    · obtain ⟨r1, a1, b1⟩ := varint_text l[i].1
      obtain ⟨r2, a2, b2⟩ := varint_text (l[i].2.length : Int)
      have c1 := catS_len t r1
      have c2 := catS_len (catS t r1) r2
      obtain ⟨r3, a3, b3⟩ := rep_loop2 l i hi hfi l[i].2.length FUEL 0 (catS (catS t r1) r2) (by omega) (by rw [FUEL_eq]; omega) (by omega)
      have a3' : S.EncodeReply_l2 l (i : Int) FUEL (catS (catS t r1) r2) 0 = some r3 := a3
      rw [if_neg (by simpa using hu), Option.bind_some, Option.bind_some, a1, Option.bind_some, cat_ok _ _ (by omega), Option.bind_some, a2, Option.bind_some, cat_ok _ _ (by omega), Option.bind_some, a3', Option.bind_some, w64_succ (by omega)]
      obtain ⟨r, g1, g2, g3⟩ := ih K (i + 1) r3 (by omega) (by omega) (by omega)
      exact ⟨r, g1, fun x hx => by have := g2 x hx; omega, g3⟩
theorem reply_text (l : List Fa) (hl : l.length ≤ 9) (hf : ∀ f ∈ l, f.2.length ≤ 4) : ∃ r : Str, S.EncodeReply l = some r ∧ List.length r ≤ 20000 := by
  obtain ⟨r1, a1, b1⟩ := varint_text (l.length : Int)
  obtain ⟨r, g1, g2, g3⟩ := rep_loop l (by omega) (fun f h => by have := hf f h; omega) l.length FUEL 0 r1 (by omega) (by rw [FUEL_eq]; omega) (by omega)
  have g1' : S.EncodeReply_l1 l FUEL r1 0 = some r := g1
  unfold S.EncodeReply
  rw [if_neg (by simp; omega), a1, Option.bind_some, g1']
  cases r with
  | inl x => exact ⟨x, rfl, by have := g2 x rfl; omega⟩
  | inr x => exact ⟨x, rfl, by have := g3 x rfl; omega⟩
/-! frames -/
def frmOf (t : Li) : Li := if t.length ≤ 200 then enc t.length ++ t ++ [u8 (chk t)] else []
def foS (a : Li) : Option Li := S.FrameOf a
def foM (a : Li) : Option Li := M.FrameOf a
def evS (n : Int) : Option Li := S.EncodeVarint n
def evM (n : Int) : Option Li := M.EncodeVarint n
theorem foS_def (a : Li) : foS a = if (decide (200 < (List.length a : Int))) then some [] else
    (evS (List.length a : Int)).bind fun x1 => (catL x1 a).bind fun x2 => (chS a).bind fun x3 => (fixL x3 1).bind fun x4 => (catL x2 x4).bind fun x5 => some x5 := rfl
theorem foM_def (a : Li) : foM a = if (decide (200 < (List.length a : Int))) then some [] else
    (evM (List.length a : Int)).bind fun x1 => (catL x1 a).bind fun x2 => (chM a).bind fun x3 => (catL x2 [u8 x3]).bind fun x4 => some x4 := rfl
theorem frameOf_eq (a : Li) (h : a.length ≤ 1048576) : foS a = some (frmOf a) ∧ foM a = some (frmOf a) := by
  rw [foS_def, foM_def]
  unfold frmOf
  by_cases hc : a.length ≤ 200
  · obtain ⟨k1, k2, k3, k4⟩ := chk_eq a h
    have e1 : evS (a.length : Int) = some (enc a.length) := EncodeVarint_S a.length (by omega)
    have e2 : evM (a.length : Int) = some (enc a.length) := EncodeVarint_M a.length (by omega)
    have hel := enc_len2 hc
    have k5 : fixL (chk a) 1 = some [u8 (chk a)] := Fixed1 (chk a) k3 k4
    rw [decide_eq_false (show ¬ (200 : Int) < (a.length : Int) by omega), if_neg Bool.false_ne_true, if_neg Bool.false_ne_true, if_pos hc, e1, e2, Option.bind_some, Option.bind_some, catL_eq _ _ (by omega), Option.bind_some, Option.bind_some, k1, k2, Option.bind_some, Option.bind_some, k5, Option.bind_some, catL_eq _ _ (by simp; omega)]
    exact ⟨rfl, rfl⟩
  · rw [decide_eq_true (show (200 : Int) < (a.length : Int) by omega), if_pos rfl, if_pos rfl, if_neg hc]
    exact ⟨rfl, rfl⟩
theorem frmOf_len (t : Li) : (frmOf t).length ≤ 203 := by
  unfold frmOf
  split
  · rename_i h
    have := enc_len2 h
    simp only [List.length_append, List.length_cons, List.length_nil]; omega
  · simp
/-! draws -/
theorem sub_text (a : Li) (i j : Nat) (h : i ≤ j) (h2 : j ≤ a.length) : ∃ r : Str, subS a (i : Int) (j : Int) = some r ∧ List.length r ≤ a.length := by
  have := sub_nat a i j h h2
  exact ⟨_, this, by show ((a.take j).drop i).length ≤ _; rw [List.length_drop, List.length_take]; omega⟩
theorem text_loop (a : Code) (ha : a.length ≤ 1048576) (c : Code × Int × Int) (hc : c.1 = a) (x : Int × (Code × Int × Int)) : ∀ (n K : Nat) (p s : Int) (l : List UInt8), n < K → l.length + n ≤ 100 → Pos a p → ∃ q t m, S.l1Text_l1 c x K p s l (n : Int) = some (q, t, m) ∧ m.length ≤ 100 ∧ Pos a q := by
  intro n
  induction n with
  | zero =>
    intro K p s l hK hl hp
    obtain ⟨K, rfl⟩ : ∃ k, K = k + 1 := ⟨K - 1, by omega⟩
    rw [S.l1Text_l1, if_neg (by simp)]
    exact ⟨p, s, l, rfl, by omega, hp⟩
  | succ n ih =>
    intro K p s l hK hl hp
    obtain ⟨K, rfl⟩ : ∃ k, K = k + 1 := ⟨K - 1, by omega⟩
    obtain ⟨v1, q1, t1, e1, -, -, p1⟩ := byte_ok a p s ha hp
    rw [S.l1Text_l1, if_pos (decide_eq_true (by omega)), hc, e1, Option.bind_some]
    simp only
    have h1 : ∃ y : Int, (if decide (x.1 = 1) = true then some (v1.tmod 2) else some v1) = some y := by split <;> exact ⟨_, rfl⟩
    obtain ⟨y, hy⟩ := h1
    have h2 : ∃ z : Int, (if decide (x.1 = 2) = true then some (w64 (97 + y.tmod 4)) else some y) = some z := by split <;> exact ⟨_, rfl⟩
    obtain ⟨z, hz⟩ := h2
    rw [hy, Option.bind_some, hz, Option.bind_some, app_eq _ _ (by simp; omega), Option.bind_some, w64_down n (by omega)]
    exact ih K q1 t1 _ (by omega) (by simp; omega) p1
theorem spoil_ok (a : Code) (p s : Int) (t : Li) (ha : a.length ≤ 1048576) (hp : Pos a p) (ht : t.length ≤ 100000) : ∃ (r : Str) (q u : Int), S.l1Spoil (a, p, s) t = some (r, (a, q, u)) ∧ List.length r ≤ 400000 := by
  have hdef : S.l1Spoil (a, p, s) t = if (decide ((List.length t : Int) = 0)) then (S.l1Text (a, p, s) 3).bind fun x1 => some (x1.1, (a, x1.2.2.1, x1.2.2.2)) else _ := rfl
  by_cases h0 : (List.length t : Int) = 0
  · rw [hdef, if_pos (decide_eq_true h0)]
    obtain ⟨v1, q1, t1, e1, -, -, p1⟩ := below_ok a p s 4 ha hp (by omega) (by omega)
    obtain ⟨v2, q2, t2, e2, h2, h3, p2⟩ := below_ok a q1 t1 4 ha p1 (by omega) (by omega)
    obtain ⟨n, rfl⟩ : ∃ n : Nat, v2 = n := ⟨v2.toNat, by omega⟩
    obtain ⟨q3, t3, m, e3, hm, p3⟩ := text_loop a ha (a, p, s) rfl (v1, (a, q1, t1)) n FUEL q2 t2 [] (by rw [FUEL_eq]; omega) (by simp; omega) p2
    unfold S.l1Text
    rw [e1, Option.bind_some]
    simp only
    rw [w64_sm (n := 3 + 1) (by omega) (by omega), show (3 : Int) + 1 = 4 from rfl, e2, Option.bind_some]
    simp only
    rw [e3]
    exact ⟨m, q3, t3, rfl, by show m.length ≤ _; omega⟩
  · obtain ⟨v1, q1, t1, e1, h1, h2, p1⟩ := below_big a p s (t.length : Int) ha hp (by omega)
    obtain ⟨k, rfl⟩ : ∃ k : Nat, v1 = k := ⟨v1.toNat, by omega⟩
    have hk : k < t.length := by omega
    obtain ⟨v2, q2, t2, e2, -, -, p2⟩ := below_ok a q1 t1 4 ha p1 (by omega) (by omega)
    obtain ⟨s1, f1, g1⟩ := sub_text t 0 k (by omega) (by omega)
    obtain ⟨s2, f2, g2⟩ := sub_text t (k + 1) t.length (by omega) (by omega)
    obtain ⟨s3, f3, g3⟩ := sub_text t k t.length (by omega) (by omega)
    have f1' : subS t 0 (k : Int) = some s1 := f1
    have f2' : subS t (w64 ((k : Int) + 1)) (List.length t : Int) = some s2 := by rw [w64_succ (by omega)]; exact f2
    have hid : idx (α := UInt8) t (k : Int) = some t[k] := idx_nat t hk
    have main : ∃ (r : Str) (q u : Int), ((S.l1Below (a, p, s) (List.length t : Int)).bind fun x2 =>
        (S.l1Below (a, x2.2.2.1, x2.2.2.2) 4).bind fun x3 =>
        if (decide (x3.1 = 0)) then
          (subS t 0 x2.1).bind fun x4 =>
          (subS t (w64 (x2.1 + 1)) (List.length t : Int)).bind fun x5 =>
          (cat x4 x5).bind fun x6 =>
          some (x6, (a, x3.2.2.1, x3.2.2.2))
        else
          if (decide (x3.1 = 1)) then
            (subS t 0 x2.1).bind fun x7 =>
            (subS t x2.1 (List.length t : Int)).bind fun x8 =>
            (S.l1Byte (a, x3.2.2.1, x3.2.2.2)).bind fun x9 =>
            (cat x7 (Str.of ([(u8 x9.1)]))).bind fun x10 =>
            (cat x10 x8).bind fun x11 =>
            some (x11, (a, x9.2.2.1, x9.2.2.2))
          else
            if (decide (x3.1 = 2)) then
              (subS t 0 x2.1).bind fun x12 =>
              some (x12, (a, x3.2.2.1, x3.2.2.2))
            else
              (subS t 0 x2.1).bind fun x13 =>
              (idx (α := UInt8) t x2.1).bind fun x14 =>
              (subS t (w64 (x2.1 + 1)) (List.length t : Int)).bind fun x15 =>
              (S.l1Below (a, x3.2.2.1, x3.2.2.2) 255).bind fun x16 =>
              (cat x13 (Str.of ([(u8 (bxor (w64 (UInt8.toNat x14 : Int)) (w64 (1 + x16.1))))]))).bind fun x17 =>
              (cat x17 x15).bind fun x18 =>
              some (x18, (a, x16.2.2.1, x16.2.2.2))) = some (r, (a, q, u)) ∧ List.length r ≤ 400000 := by
      rw [e1, Option.bind_some]
      simp only
      rw [e2, Option.bind_some]
      simp only
      by_cases c0 : v2 = 0
      · rw [if_pos (decide_eq_true c0), f1', Option.bind_some, f2', Option.bind_some, cat_ok _ _ (by omega)]
        exact ⟨_, q2, t2, rfl, by rw [catS_len]; omega⟩
      · rw [if_neg (by simpa using c0)]
        by_cases c1 : v2 = 1
        · obtain ⟨v3, q3, t3, e3, -, -, p3⟩ := byte_ok a q2 t2 ha p2
          have hl1 : List.length (Str.of [u8 v3]) = 1 := rfl
          rw [if_pos (decide_eq_true c1), f1', Option.bind_some, f3, Option.bind_some, e3, Option.bind_some]
          simp only
          rw [cat_ok _ _ (by rw [hl1]; omega), Option.bind_some, cat_ok _ _ (by rw [catS_len, hl1]; omega)]
          exact ⟨_, q3, t3, rfl, by rw [catS_len, catS_len, hl1]; omega⟩
        · rw [if_neg (by simpa using c1)]
          by_cases c2 : v2 = 2
          · rw [if_pos (decide_eq_true c2), f1']
            exact ⟨_, q2, t2, rfl, by omega⟩
          · obtain ⟨v3, q3, t3, e3, -, -, p3⟩ := below_ok a q2 t2 255 ha p2 (by omega) (by omega)
            have hl1 : List.length (Str.of [u8 (bxor (w64 (t[k].toNat : Int)) (w64 (1 + v3)))]) = 1 := rfl
            rw [if_neg (by simpa using c2), f1', Option.bind_some, hid, Option.bind_some, f2', Option.bind_some, e3, Option.bind_some]
            simp only
            rw [cat_ok _ _ (by rw [hl1]; omega), Option.bind_some, cat_ok _ _ (by rw [catS_len, hl1]; omega)]
            exact ⟨_, q3, t3, rfl, by rw [catS_len, catS_len, hl1]; omega⟩
    obtain ⟨r, q, u, m1, m2⟩ := main
    refine ⟨r, q, u, ?_, m2⟩
    rw [hdef, if_neg (by simpa using h0)]
    exact m1
theorem frames_loop (a : Code) (ha : a.length ≤ 1048576) : ∀ (n K : Nat) (p s : Int) (l : Str), n < K → List.length l + 203 * n ≤ 100000 → Pos a p → ∃ (q t : Int) (m : Str), S.DrawSplitFrames_l1 a K p s l (n : Int) = some (q, t, m) ∧ List.length m ≤ List.length l + 203 * n ∧ Pos a q := by
  intro n
  induction n with
  | zero =>
    intro K p s l hK hl hp
    obtain ⟨K, rfl⟩ : ∃ k, K = k + 1 := ⟨K - 1, by omega⟩
    rw [S.DrawSplitFrames_l1, if_neg (by simp)]
    exact ⟨p, s, l, rfl, by omega, hp⟩
  | succ n ih =>
    intro K p s l hK hl hp
    obtain ⟨K, rfl⟩ : ∃ k, K = k + 1 := ⟨K - 1, by omega⟩
    obtain ⟨f, q1, t1, e1, hf, p1⟩ := access26_ok a p s ha hp
    obtain ⟨v2, q2, t2, e2, -, -, p2⟩ := below_ok a q1 t1 9 ha p1 (by omega) (by omega)
    obtain ⟨r, e3, hr⟩ := req_text f (w64 (1 + v2)) hf
    have e4' : ∃ fr : Str, S.FrameOf r = some fr ∧ List.length fr ≤ 203 := ⟨frmOf r, (frameOf_eq r (show List.length r ≤ 1048576 by omega)).1, frmOf_len r⟩
    obtain ⟨fr, e4, hfl⟩ := e4'
    have hc := catS_len l fr
    rw [S.DrawSplitFrames_l1, if_pos (decide_eq_true (by omega)), e1, Option.bind_some]
    simp only
    rw [e2, Option.bind_some]
    simp only
    rw [e3, Option.bind_some, e4, Option.bind_some, cat_ok _ _ (by omega), Option.bind_some, w64_down n (by omega)]
    obtain ⟨q, t, m, g1, g2, g3⟩ := ih K q2 t2 (catS l fr) (by omega) (by omega) p2
    exact ⟨q, t, m, g1, by omega, g3⟩
theorem drawSplit_ok (a : Code) (ha : a.length ≤ 1048576) : ∃ r : Str, S.DrawSplitFrames a = some r ∧ List.length r ≤ 400000 := by
  obtain ⟨t, e0⟩ := new_ok a ha
  obtain ⟨v1, q1, t1, e1, h0, h1, p1⟩ := below_ok a 0 t 4 ha ⟨by omega, by omega⟩ (by omega) (by omega)
  obtain ⟨n, rfl⟩ : ∃ n : Nat, v1 = n := ⟨v1.toNat, by omega⟩
  obtain ⟨q2, t2, m, e2, hm, p2⟩ := frames_loop a ha n FUEL q1 t1 (str []) (by rw [FUEL_eq]; omega) (by rw [nil_len]; omega) p1
  rw [nil_len] at hm
  obtain ⟨v3, q3, t3, e3, -, -, p3⟩ := below_ok a q2 t2 4 ha p2 (by omega) (by omega)
  unfold S.DrawSplitFrames
  rw [e0, Option.bind_some]
  simp only
  rw [e1, Option.bind_some]
  simp only
  rw [e2, Option.bind_some]
  simp only
  rw [e3, Option.bind_some]
  simp only
  by_cases c0 : v3 = 0
  · obtain ⟨r, q4, t4, e4, hr⟩ := spoil_ok a q3 t3 m ha p3 (show List.length m ≤ 100000 by omega)
    rw [if_pos (decide_eq_true c0), e4]
    exact ⟨r, rfl, hr⟩
  · rw [if_neg (by simpa using c0)]
    by_cases c1 : v3 = 1
    · obtain ⟨v4, q4, t4, e4, h4, h5, p4⟩ := below_ok a q3 t3 5 ha p3 (by omega) (by omega)
      have e5 : ∃ j : Nat, j ≤ List.length m ∧ w64 ((List.length m : Int) - (if v4 < (List.length m : Int) then v4 else (List.length m : Int))) = (j : Int) := by
        refine ⟨((List.length m : Int) - (if v4 < (List.length m : Int) then v4 else (List.length m : Int))).toNat, ?_, ?_⟩
        · split <;> omega
        · rw [w64_sm (by split <;> omega) (by split <;> omega)]; split <;> omega
      obtain ⟨j, hj, hj2⟩ := e5
      obtain ⟨r, f1, f2⟩ := sub_text m 0 j (by omega) hj
      have f1' : subS m 0 (j : Int) = some r := f1
      rw [if_pos (decide_eq_true c1), e4, Option.bind_some]
      simp only
      rw [hj2, f1']
      exact ⟨r, rfl, by have : List.length r ≤ List.length m := f2; omega⟩
    · rw [if_neg (by simpa using c1)]
      exact ⟨m, rfl, by omega⟩
theorem drawFrame_ok (a : Code) (ha : a.length ≤ 1048576) : ∃ r : Str, S.DrawFrameOf a = some r ∧ List.length r ≤ 400000 := by
  obtain ⟨t, e0⟩ := new_ok a ha
  obtain ⟨sc, q1, t1, e1, hs, -, p1⟩ := schema_ok a 0 t ha ⟨by omega, by omega⟩
  obtain ⟨l, q2, t2, e2, hl, hf, p2⟩ := anyFacts_ok a q1 t1 sc ha p1 hs
  obtain ⟨r, e3, hr⟩ := reply_text l hl hf
  obtain ⟨b, q3, t3, e4, p3⟩ := once_ok a q2 t2 3 ha p2 (by omega) (by omega)
  unfold S.DrawFrameOf S.DrawDecodeReply
  rw [e0, Option.bind_some]
  simp only
  rw [e1, Option.bind_some]
  simp only
  rw [e2, Option.bind_some]
  simp only
  rw [e3, Option.bind_some, e4, Option.bind_some]
  simp only
  cases b
  · exact ⟨r, rfl, by omega⟩
  · obtain ⟨u, q4, t4, e5, hu⟩ := spoil_ok a q3 t3 r ha p3 (show List.length r ≤ 100000 by omega)
    rw [if_pos rfl, e5]
    exact ⟨u, rfl, hu⟩
end Go.Gx.Px
