/- Plain laws, many texts in one. Conditions: none. -/
import Derived.Test.YtbfmhlhjkbimmaaGreatDoorPlSp
import Derived.Test.YtbfmhlhjkbimmaaGreatDoorPlTy
set_option linter.unusedVariables false
set_option linter.unusedSimpArgs false
namespace Go.Gx.Px
abbrev Fa := Int × List Int
theorem inS (a b c : Int) : S.l1In a b c = some (inR a b c) := by
  unfold S.l1In inR
  by_cases h : b ≤ a <;> simp [h]
theorem inM (a b c : Int) : M.within a b c = some (inR a b c) := by
  unfold M.within inR
  by_cases h : b ≤ a <;> simp [h]
theorem idx_in {α : Type} {l : List α} {r : Int} (d : α) (h : inR r 0 ((l.length : Int) - 1) = true) : idx l r = some (l.getD r.toNat d) := by
  rw [inR_iff] at h
  obtain ⟨n, rfl⟩ : ∃ n : Nat, r = n := ⟨r.toNat, by omega⟩
  have hn : n < l.length := by omega
  rw [idx_nat l hn]
  simp [hn]
/-- a loop over numbers that stops at the first that is not as it should be -/
theorem all_loopN {β : Type} (f : Nat → Int → Option (Sum Unit β)) (n : Nat) (q : Nat → Bool) (b : β) (hn : n ≤ 4294967296) (he : ∀ k, f (k + 1) (n : Int) = some (.inl ()))
    (hs : ∀ k (i : Nat), i < n → f (k + 1) (i : Int) = if q i then f k ((i + 1 : Nat) : Int) else some (.inr b)) : f FUEL 0 = some (if (List.range n).all q then .inl () else .inr b) :=
  all_loop f (List.range n) q b (by simpa using hn) (by simpa using he) (fun k i hi => by rw [hs k i (by simpa using hi)]; simp)
theorem any_loop {α β : Type} (f : Nat → Int → Option (Sum Unit β)) (a : List α) (q : α → Bool) (b : β) (hn : a.length ≤ 4294967296) (he : ∀ k, f (k + 1) (a.length : Int) = some (.inl ()))
    (hs : ∀ k (i : Nat) (hi : i < a.length), f (k + 1) (i : Int) = if q a[i] then some (.inr b) else f k ((i + 1 : Nat) : Int)) : f FUEL 0 = some (if a.any q then .inr b else .inl ()) := by
  rw [all_loop f a (fun e => !q e) b hn he (fun k i hi => by rw [hs k i hi]; cases q a[i] <;> rfl)]
  have : a.all (fun e => !q e) = !a.any q := by rw [List.any_eq_not_all_not]; simp
  rw [this]; cases a.any q <;> rfl
theorem flat_loopN {β : Type} (f : Nat → List β → Int → Option (List β)) (n : Nat) (g : Nat → List β) (hn : n ≤ 4294967296) (he : ∀ k x, f (k + 1) x (n : Int) = some x)
    (hs : ∀ k (x : List β) (i : Nat), i < n → x = (List.range i).flatMap g → f (k + 1) x (i : Int) = f k (x ++ g i) ((i + 1 : Nat) : Int)) : f FUEL [] 0 = some ((List.range n).flatMap g) :=
  flat_loop f (List.range n) g (by simpa using hn) (by simpa using he) (fun k x i hi hx => by
    rw [List.length_range] at hi
    rw [hs k x i hi (by rw [hx, List.take_range, Nat.min_eq_left (by omega)])]; simp)
theorem flatMap_len {α β : Type} (g : α → List β) (hg : ∀ i, (g i).length ≤ 1) : ∀ l : List α, (l.flatMap g).length ≤ l.length
  | [] => by simp
  | a :: l => by have := hg a; have := flatMap_len g hg l; simp only [List.flatMap_cons, List.length_append, List.length_cons]; omega
theorem w64_pred {i : Nat} (h0 : 0 < i) (h : i < 4294967296) : w64 ((i : Int) - 1) = ((i - 1 : Nat) : Int) := by
  rw [w64_id (by omega) (by omega)]; omega
theorem any_not {α : Type} (l : List α) (q : α → Bool) : l.any (fun e => !q e) = !l.all q := by rw [List.all_eq_not_any_not]; simp

theorem shr7 (x : Int) (h0 : 0 ≤ x) (h1 : x < 2 ^ 62) : shr x 7 = w64 (x.tdiv 128) := by
  have h2 : x.tdiv 128 = x / 128 := Int.tdiv_eq_ediv_of_nonneg h0
  have h3 : shr x 7 = x / 128 := by
    unfold shr
    rw [Int.fdiv_eq_ediv_of_nonneg _ (by decide)]
    rfl
  rw [h2, h3, w64_id (by omega) (by omega)]
theorem w8_mod (x : Int) : w8 x = x % 256 := by
  unfold w8
  simp [IntKind.wrap, IntKind.bits, IntKind.signed]
theorem or128 (n : Nat) : ((BitVec.ofNat 8 n) ||| 128#8).toNat = 128 + n % 128 := by
  have h : ∀ b : BitVec 8, (b ||| 128#8).toNat = 128 + b.toNat % 128 := by decide +kernel
  rw [h]
  simp
theorem byte_same (x : Int) (h0 : 0 ≤ x) : UInt8.ofNat (Int.toNat (bor8 (w8 x) 128)) = u8 (w64 (128 + x.tmod 128)) := by
  have h2 : x.tmod 128 = x % 128 := Int.tmod_eq_emod_of_nonneg h0
  have h4 : w64 (128 + x.tmod 128) = 128 + x % 128 := by rw [h2, w64_id (by omega) (by omega)]
  have h5 : bor8 (w8 x) 128 = 128 + x % 128 := by
    unfold bor8
    rw [w8_eq, w8_mod, w8_mod]
    have e1 : BitVec.ofInt 8 (x % 256) = BitVec.ofNat 8 (x % 256).toNat := by
      rw [← BitVec.ofInt_natCast]; congr 1; omega
    have e2 : BitVec.ofInt 8 128 = 128#8 := rfl
    rw [e1, e2, or128]
    omega
  rw [h5, h4]
  unfold u8
  rw [w8_mod]
  congr 1
  omega
/-- the bytes of a number -/
def enc (n : Nat) : List UInt8 := if h : n < 128 then [UInt8.ofNat n] else UInt8.ofNat (128 + n % 128) :: enc (n / 128)
termination_by n
decreasing_by omega
theorem u8_nat (x : Int) (h0 : 0 ≤ x) (h1 : x < 256) : u8 x = UInt8.ofNat x.toNat := by
  unfold u8; rw [w8_mod]; congr 1; omega
theorem enc_len : ∀ (b x : Nat), x < 128 ^ (b + 1) → (enc x).length ≤ b + 1 := by
  intro b
  induction b with
  | zero => intro x h; rw [enc, dif_pos (by simpa using h)]; simp
  | succ b ih =>
    intro x h
    rw [enc]
    split
    · simp
    · rw [Nat.pow_succ] at h
      generalize 128 ^ (b + 1) = P at h ih
      have := ih (x / 128) (by omega)
      simp only [List.length_cons]; omega
/-- the number of some bytes -/
def vv : List UInt8 → Nat
  | [] => 0
  | b :: l => b.toNat % 128 + 128 * vv l
/-- bytes that a number may have -/
def okG : Bool → List UInt8 → Bool
  | _, [] => false
  | f, [b] => decide (b.toNat < 128) && (f || decide (b.toNat ≠ 0))
  | _, b :: c :: l => decide (128 ≤ b.toNat) && okG false (c :: l)
theorem enc_ok : ∀ (k n : Nat) (f : Bool), n ≤ k → (f = true ∨ 0 < n) → okG f (enc n) = true := by
  intro k
  induction k with
  | zero =>
    intro n f h h2
    obtain rfl : n = 0 := by omega
    rcases h2 with rfl | h2
    · rw [enc, dif_pos (by omega)]; rfl
    · omega
  | succ k ih =>
    intro n f h h2
    rw [enc]
    by_cases hn : n < 128
    · rw [dif_pos hn]
      unfold okG
      have : (UInt8.ofNat n).toNat = n := by simp; omega
      rw [this]
      rcases h2 with rfl | h2
      · simp [hn]
      · have : n ≠ 0 := by omega
        simp [hn, this]
    · rw [dif_neg hn]
      have h3 := ih (n / 128) false (by omega) (by right; omega)
      have h4 : (UInt8.ofNat (128 + n % 128)).toNat = 128 + n % 128 := by simp; omega
      generalize he : enc (n / 128) = e at h3
      cases e with
      | nil => simp [okG] at h3
      | cons c l =>
        unfold okG
        rw [h4, h3]; simp
theorem ok_pos : ∀ l : List UInt8, okG false l = true → 0 < vv l
  | [], h => by simp [okG] at h
  | [b], h => by simp [okG, vv] at h ⊢; omega
  | b :: c :: l, h => by
    simp only [okG, Bool.and_eq_true] at h
    have := ok_pos (c :: l) h.2
    rw [vv]; omega
theorem ok_enc : ∀ (l : List UInt8) (f : Bool), okG f l = true → enc (vv l) = l
  | [], f, h => by simp [okG] at h
  | [b], f, h => by
    simp only [okG, Bool.and_eq_true, decide_eq_true_eq] at h
    rw [enc, dif_pos (by simp [vv]; omega)]
    have e : vv [b] = b.toNat := by simp [vv]; omega
    rw [e]; simp
  | b :: c :: l, f, h => by
    simp only [okG, Bool.and_eq_true, decide_eq_true_eq] at h
    have h1 := ok_pos _ h.2
    have h2 := ok_enc (c :: l) false h.2
    have hb := b.toNat_lt
    have e : vv (b :: c :: l) = b.toNat % 128 + 128 * vv (c :: l) := rfl
    rw [e, enc, dif_neg (by omega), show (b.toNat % 128 + 128 * vv (c :: l)) / 128 = vv (c :: l) by omega, h2, show 128 + (b.toNat % 128 + 128 * vv (c :: l)) % 128 = b.toNat by omega]
    simp
theorem enc_vv (l : List UInt8) : (enc (vv l) = l) ↔ okG true l = true :=
  ⟨fun h => h ▸ enc_ok _ _ true (Nat.le_refl _) (.inl rfl), fun h => ok_enc l true h⟩
theorem vv_lt : ∀ l : List UInt8, vv l < 128 ^ l.length
  | [] => by simp [vv]
  | b :: l => by
    have := vv_lt l
    rw [vv, List.length_cons, Nat.pow_succ]
    generalize 128 ^ l.length = P at this
    omega
theorem vv_snoc : ∀ (l : List UInt8) (b : UInt8), vv (l ++ [b]) = vv l + b.toNat % 128 * 128 ^ l.length
  | [], b => by simp [vv]
  | a :: l, b => by
    rw [List.cons_append, vv, vv_snoc l b, vv, List.length_cons, Nat.pow_succ, Nat.mul_add]
    have : 128 * (b.toNat % 128 * 128 ^ l.length) = b.toNat % 128 * (128 ^ l.length * 128) := by
      rw [Nat.mul_left_comm, Nat.mul_comm 128 (128 ^ l.length)]
    omega
/-! reading -/
theorem okG_snoc : ∀ (l : List UInt8) (b : UInt8) (f : Bool), okG f (l ++ [b]) = (l.all (fun c => decide (128 ≤ c.toNat)) && (decide (b.toNat < 128) && ((f && l.isEmpty) || decide (b.toNat ≠ 0))))
  | [], b, f => by simp [okG]
  | [x], b, f => by simp [okG]
  | x :: y :: l, b, f => by
    have := okG_snoc (y :: l) b false
    rw [List.cons_append] at this
    rw [List.cons_append, List.cons_append, okG, this]
    simp [Bool.and_assoc]
def hD (a : List UInt8) (i : Nat) : Option (Int × Int) := if okG true (a.take (i + 1)) then some (((vv (a.take (i + 1)) : Nat) : Int), ((i + 1 : Nat) : Int)) else none
def dcd (a : List UInt8) : Int × Int := ((List.range (min 7 a.length)).findSome? (hD a)).getD (0, 0)
theorem take_snoc {α : Type} (a : List α) {i : Nat} (h : i < a.length) : a.take (i + 1) = a.take i ++ [a[i]] := by rw [List.take_add_one, List.getElem?_eq_getElem h]; rfl
def eqS (x y : Str) : Bool := decide (x = y)
theorem eqS_iff' (x y : Str) : eqS x y = true ↔ x = y := by
  unfold eqS; rw [decide_eq_true_eq]
theorem eqS_iff (x y : List UInt8) : eqS x y = true ↔ x = y := eqS_iff' x y
theorem sum_loop {β : Type} (f : Nat → Int → Option (Sum Unit β)) (n : Nat) (h : Nat → Option β) (hn : n ≤ 4294967296) (he : ∀ k, f (k + 1) (n : Int) = some (.inl ()))
    (hs : ∀ k (i : Nat), i < n → f (k + 1) (i : Int) = (match h i with | some b => some (.inr b) | none => f k ((i + 1 : Nat) : Int))) :
    f FUEL 0 = some (match (List.range n).findSome? h with | some b => .inr b | none => .inl ()) := by
  have key : ∀ (K i : Nat), i ≤ n → n < i + K → f K (i : Int) = some (match ((List.range n).drop i).findSome? h with | some b => .inr b | none => .inl ()) := by
    intro K
    induction K with
    | zero => intro i h1 h2; omega
    | succ K ih =>
      intro i h1 h2
      by_cases hi : i < n
      · rw [hs K i hi, List.drop_eq_getElem_cons (by simpa using hi), List.findSome?_cons, List.getElem_range]
        cases h i with
        | some b => rfl
        | none => exact ih (i + 1) (by omega) (by omega)
      · obtain rfl : i = n := by omega
        have e0 : (List.range i).drop i = [] := List.drop_eq_nil_of_le (by simp)
        rw [he, e0]; rfl
  have := key FUEL 0 (by omega) (by rw [FUEL_eq]; omega)
  simpa using this
theorem vv_take_lt (a : List UInt8) {i : Nat} (h : i < 7) : vv (a.take (i + 1)) < 562949953421312 := by
  refine Nat.lt_of_lt_of_le (vv_lt _) (Nat.le_trans (Nat.pow_le_pow_right (by omega) (?_ : _ ≤ 7)) (by decide))
  rw [List.length_take]; omega
theorem and127 (b : UInt8) : w64 (band8 (UInt8.toNat b : Int) 127) = ((b.toNat % 128 : Nat) : Int) := by
  have h : ∀ c : BitVec 8, (c &&& 127#8).toNat = c.toNat % 128 := by decide +kernel
  have hb := b.toNat_lt
  have e : band8 (UInt8.toNat b : Int) 127 = ((b.toNat % 128 : Nat) : Int) := by
    unfold band8
    rw [w8_eq, w8_mod]
    have e1 : BitVec.ofInt 8 (b.toNat : Int) = BitVec.ofNat 8 b.toNat := by rw [← BitVec.ofInt_natCast]
    have e2 : BitVec.ofInt 8 127 = 127#8 := rfl
    rw [e1, e2, h]
    simp only [BitVec.toNat_ofNat]
    omega
  rw [e, w64_id (by omega) (by omega)]
theorem bor_add (x y i : Nat) (hx : x < 128 ^ i) (hy : y < 128) (hi : i < 7) : bor (x : Int) (shl (y : Int) (w64 (7 * (i : Int)))) = ((x + y * 128 ^ i : Nat) : Int) := by
  have hP : 128 ^ i ≤ 128 ^ 6 := Nat.pow_le_pow_right (by omega) (by omega)
  have hP' : 128 ^ i ≤ 4398046511104 := hP
  have hm : y * 128 ^ i ≤ 127 * 128 ^ i := Nat.mul_le_mul_right _ (by omega)
  have e1 : shl (y : Int) (w64 (7 * (i : Int))) = ((y * 128 ^ i : Nat) : Int) := by
    unfold shl
    rw [w64_sm (n := 7 * (i : Int)) (by omega) (by omega), show (7 * (i : Int)).toNat = 7 * i by omega, Nat.min_eq_left (by omega)]
    have e2 : (2 : Int) ^ (7 * i) = ((128 ^ i : Nat) : Int) := by
      rw [Int.pow_mul]; simp
    rw [e2, ← Int.natCast_mul, w64_id (by omega) (by omega)]
  rw [e1]
  unfold bor
  rw [w64_eq]
  have e3 : (BitVec.ofInt 64 (x : Int) ||| BitVec.ofInt 64 ((y * 128 ^ i : Nat) : Int)).toNat = x + y * 128 ^ i := by
    rw [BitVec.ofInt_natCast, BitVec.ofInt_natCast, BitVec.toNat_or, BitVec.toNat_ofNat, BitVec.toNat_ofNat, Nat.mod_eq_of_lt (by omega), Nat.mod_eq_of_lt (by omega)]
    have e4 : (128 : Nat) ^ i = 2 ^ (7 * i) := by rw [Nat.pow_mul]
    rw [e4] at hx ⊢
    have := Nat.two_pow_add_eq_or_of_lt hx y
    rw [Nat.or_comm, Nat.mul_comm y, ← this]; omega
  rw [e3, w64_id (by omega) (by omega)]
theorem hD_snoc (a : List UInt8) {i : Nat} (h : i < a.length) : okG true (a.take (i + 1)) = ((a.take i).all (fun c => decide (128 ≤ c.toNat)) && (decide (a[i].toNat < 128) && (decide (i = 0) || decide (a[i].toNat ≠ 0)))) := by
  rw [take_snoc a h, okG_snoc]
  congr 3
  rw [Bool.true_and, Bool.eq_iff_iff, List.isEmpty_iff, decide_eq_true_eq]
  rw [List.take_eq_nil_iff]
  refine ⟨fun h => h.elim id (fun h => ?_), .inl⟩
  subst h; simp at *
theorem findSome_none {α β : Type} (l : List α) (f : α → Option β) (h : ∀ a ∈ l, f a = none) : l.findSome? f = none := by
  induction l with
  | nil => rfl
  | cons a l ih => rw [List.findSome?_cons, h a (List.mem_cons_self ..)]; exact ih (fun b hb => h b (List.mem_cons_of_mem _ hb))
theorem dcd_r (a : List UInt8) : dcd a = (0, 0) ∨ ∃ n s : Nat, dcd a = ((n : Int), (s : Int)) ∧ n < 562949953421312 ∧ 1 ≤ s ∧ s ≤ 7 ∧ s ≤ a.length := by
  unfold dcd
  cases h : (List.range (min 7 a.length)).findSome? (hD a) with
  | none => exact .inl rfl
  | some r =>
    obtain ⟨i, hi, h2⟩ := List.exists_of_findSome?_eq_some h
    rw [List.mem_range] at hi
    unfold hD at h2
    split at h2
    · cases h2
      exact .inr ⟨_, _, rfl, vv_take_lt a (by omega), by omega, by omega, by omega⟩
    · cases h2

abbrev Li := List UInt8
def valsOk (l : List Int) : Bool := l.all fun n => inR n 0 9
theorem areValues_M (l : List Int) (h : l.length ≤ 4294967296) : M.areValues l = some (valsOk l) := by
  unfold M.areValues valsOk
  rw [Slices_ContainsFunc_Lint_int_M_areValues_c1_eq l (fun n => !inR n 0 9) h (fun e he => by unfold M.areValues_c1 M.isValue; rw [inM]; rfl), any_not]
  simp
theorem nil_len : List.length (str []) = 0 := rfl
theorem int_text (n : Int) (h0 : 0 ≤ n) (h1 : n ≤ 9) : ∃ r : Str, S.FormatInt n = some r ∧ List.length r = 1 := by
  unfold S.FormatInt
  by_cases hz : n = 0
  · rw [if_pos (decide_eq_true hz)]; exact ⟨_, rfl, rfl⟩
  · rw [if_neg (by simpa using hz)]
    have hF : FUEL = 4611686018427387902 + 1 + 1 := FUEL_eq
    have e1 : n.tmod 10 = n := by rw [Int.tmod_eq_emod_of_nonneg h0]; omega
    have e2 : w64 (n.tdiv 10) = 0 := by rw [Int.tdiv_eq_ediv_of_nonneg h0, w64_sm (by omega) (by omega)]; omega
    have hl : List.length (Str.of [u8 (w64 (48 + n))]) = 1 := rfl
    have e3 : S.FormatInt_l1 FUEL n (str []) = some (catS (Str.of [u8 (w64 (48 + n))]) (str [])) := by
      rw [hF, S.FormatInt_l1, if_pos (by simpa using hz), e1, if_neg (by simp; omega), Option.bind_some, cat_ok _ _ (by rw [hl, nil_len]; omega), Option.bind_some, e2, S.FormatInt_l1, if_neg (by simp)]
    rw [e3, Option.bind_some, if_neg (by simp; omega)]
    exact ⟨_, rfl, by rw [catS_len, hl, nil_len]⟩
theorem ints_loop (v : List Int) (hv : ∀ x ∈ v, 0 ≤ x ∧ x ≤ 9) (hl : v.length ≤ 1000) : ∀ (n K i : Nat) (t : Str), i + n = v.length → n < K → List.length t ≤ 2 * i → ∃ r : Str, S.l2List_l1 v K t (i : Int) = some r ∧ List.length r ≤ 2 * v.length := by
  intro n
  induction n with
  | zero =>
    intro K i t h1 hK ht
    obtain ⟨K, rfl⟩ : ∃ k, K = k + 1 := ⟨K - 1, by omega⟩
    obtain rfl : i = v.length := by omega
    rw [S.l2List_l1, if_neg (by simp)]
    exact ⟨t, rfl, ht⟩
  | succ n ih =>
    intro K i t h1 hK ht
    obtain ⟨K, rfl⟩ : ∃ k, K = k + 1 := ⟨K - 1, by omega⟩
    have hi : i < v.length := by omega
    obtain ⟨r, e1, e2⟩ := int_text v[i] (hv _ (List.getElem_mem hi)).1 (hv _ (List.getElem_mem hi)).2
    have hc : List.length (str [44]) = 1 := rfl
    have hx : ∃ u : Str, (if decide (0 < (i : Int)) = true then (cat t (str [44])).bind fun x5 => some x5 else some t) = some u ∧ List.length u ≤ 2 * i + 1 := by
      by_cases h0 : 0 < i
      · rw [if_pos (decide_eq_true (by omega)), cat_ok _ _ (by rw [hc]; omega)]
        exact ⟨_, rfl, by rw [catS_len, hc]; omega⟩
      · rw [if_neg (by simp; omega)]; exact ⟨t, rfl, by omega⟩
    obtain ⟨u, u1, u2⟩ := hx
    rw [S.l2List_l1, if_pos (decide_eq_true (by omega)), u1, Option.bind_some, idx_nat v hi, Option.bind_some, e1, Option.bind_some, cat_ok _ _ (by omega), Option.bind_some, w64_succ (by omega)]
    exact ih K (i + 1) _ (by omega) (by omega) (by rw [catS_len]; omega)
theorem ints_text (v : List Int) (hv : ∀ x ∈ v, 0 ≤ x ∧ x ≤ 9) (hl : v.length ≤ 1000) : ∃ r : Str, S.l2List v = some r ∧ List.length r ≤ 2 * v.length := by
  obtain ⟨r, h1, h2⟩ := ints_loop v hv hl v.length FUEL 0 (str []) (by omega) (by rw [FUEL_eq]; omega) (by rw [nil_len]; omega)
  have h1' : S.l2List_l1 v FUEL (str []) 0 = some r := h1
  unfold S.l2List
  rw [h1']
  exact ⟨r, rfl, h2⟩
theorem all_in {v : List Int} (h : (v.all fun x => inR x 0 9) = true) : ∀ x ∈ v, 0 ≤ x ∧ x ≤ 9 := fun x hx => inR_iff.1 (List.all_eq_true.1 h x hx)
/-! a text is empty where the fact or the access is none -/
def okA (f : Fa) : Bool := inR f.1 0 4 && (!decide (3 < (f.2.length : Int)) && valsOk f.2)
def okF (f : Fa) : Bool := inR f.1 0 2 && (inR (f.2.length : Int) 1 3 && valsOk f.2)
theorem not_nil {t : Str} (h : 0 < List.length t) : ¬ t = str [] := by rintro rfl; rw [nil_len] at h; omega
theorem access_S (f : Fa) (hf : f.2.length ≤ 4294967296) : ∃ t : Str, S.FormatAccess f = some t ∧ (t = str [] ↔ okA f = false) := by
  unfold S.FormatAccess okA
  rw [inS]
  cases h1 : inR f.1 0 4
  · exact ⟨_, rfl, by simp⟩
  · by_cases h2 : (3 : Int) < (f.2.length : Int)
    · rw [decide_eq_true h2]; exact ⟨_, rfl, by simp⟩
    · rw [decide_eq_false h2]
      rw [all_loop (S.FormatAccess_l1 f) f.2 (fun x => inR x 0 9) (str []) hf (fun k => by rw [S.FormatAccess_l1, if_neg (by simp)]) (fun k i hi => by
        rw [S.FormatAccess_l1, if_pos (decide_eq_true (by omega)), idx_nat _ hi, Option.bind_some, inS, Option.bind_some, w64_succ (by omega)]
        cases inR f.2[i] 0 9 <;> rfl)]
      cases h3 : f.2.all fun x => inR x 0 9
      · exact ⟨_, rfl, by simp [valsOk, h3]⟩
      · rw [inR_iff] at h1
        obtain ⟨r1, a1, b1⟩ := int_text f.1 (by omega) (by omega)
        obtain ⟨r2, a2, b2⟩ := ints_text f.2 (all_in h3) (by omega)
        have l1 : List.length (str [109]) = 1 := rfl
        have l2 : List.length (str [40]) = 1 := rfl
        have l3 : List.length (str [41]) = 1 := rfl
        simp only [Option.bind_some, Bool.not_true, Bool.false_eq_true, if_false, if_true]
        rw [a1, Option.bind_some, cat_ok _ _ (by omega), Option.bind_some, cat_ok _ _ (by rw [catS_len]; omega), Option.bind_some, a2, Option.bind_some, cat_ok _ _ (by rw [catS_len, catS_len]; omega), Option.bind_some, cat_ok _ _ (by rw [catS_len, catS_len, catS_len]; omega)]
        refine ⟨_, rfl, ?_⟩
        have hn : ¬ catS (catS (catS (catS (str [109]) r1) (str [40])) r2) (str [41]) = str [] := not_nil (by rw [catS_len]; omega)
        simp [valsOk, h3, hn]
/-! the other side -/
def digL (n : Int) : Li := [UInt8.ofNat (48 + n.toNat)]
def dig (n : Int) : Str := digL n
theorem itoa_M (n : Int) (h0 : 0 ≤ n) (h1 : n ≤ 9) : M.FormatInt n = some (Str.of [UInt8.ofNat (48 + n.toNat)]) := by
  have e2 : Lib.decDigits n.toNat = digL n := by rw [Lib.decDigits, dif_pos (by omega)]; rfl
  have e : Strconv.Itoa n = some (dig n) := by
    unfold Strconv.Itoa
    first
    | (unfold itoaS; rw [if_pos ⟨h0, by omega⟩]; exact congrArg some e2)
    | (unfold itoaF; rw [if_pos ⟨by omega, by omega⟩]; exact congrArg some (show Lib.itoa n = digL n by unfold Lib.itoa; rw [if_neg (by omega), e2]))
  unfold M.FormatInt
  rw [e]; rfl
theorem lens_dig : ∀ l : List Int, Lib.lens (l.map digL) = l.length
  | [] => rfl
  | a :: l => by
    have := lens_dig l
    unfold Lib.lens at *
    rw [List.map_cons, List.map_cons, List.sum_cons, this, List.length_cons]
    have : (digL a).length = 1 := rfl
    omega
theorem join_len (l : List Int) (s : Li) (hs : s.length = 1) : (Lib.join (l.map digL) s).length ≤ 2 * l.length := by
  cases l with
  | nil => exact Nat.le_refl _
  | cons a l =>
    rw [List.map_cons, Lib.join_length, ← List.map_cons, lens_dig, hs, List.length_map, List.length_cons]; omega
theorem joined_T (l : List Int) (hl : l.length ≤ 3) (hv : ∀ x ∈ l, 0 ≤ x ∧ x ≤ 9) : M.joined l (str [44]) = some (str (Lib.join (l.map digL) [44])) := by
  have hj := join_len l [44] rfl
  unfold M.joined
  rw [map_loop (M.joined_l1 l) l dig (by omega) (fun k x => by rw [M.joined_l1, if_neg (by simp)]) (fun k x i hi hx => by
    rw [M.joined_l1, if_pos (decide_eq_true (by omega)), idx_nat l hi, Option.bind_some, itoa_M _ (hv _ (List.getElem_mem hi)).1 (hv _ (List.getElem_mem hi)).2, Option.bind_some, app_eq _ _ (by simp; omega), Option.bind_some, w64_succ (by omega)]; rfl), Option.bind_some]
  unfold Strings.Join
  have e : joinS (l.map dig) (str [44]) = some (Lib.join (l.map digL) [44]) := by
    unfold joinS
    exact if_pos ⟨by rw [List.length_map]; omega, Nat.le_trans hj (by omega)⟩
  rw [e]
  rfl
theorem joined_M (l : List Int) (hl : l.length ≤ 3) (hv : ∀ x ∈ l, 0 ≤ x ∧ x ≤ 9) : ∃ r : Str, M.joined l (str [44]) = some r ∧ List.length r ≤ 6 :=
  ⟨_, joined_T l hl hv, Nat.le_trans (join_len l [44] rfl) (by omega)⟩
theorem access_M (f : Fa) (hf : f.2.length ≤ 4294967296) : ∃ t : Str, M.FormatAccess f = some t ∧ (t = str [] ↔ okA f = false) := by
  unfold M.FormatAccess okA
  rw [inM]
  cases h1 : inR f.1 0 4
  · exact ⟨_, rfl, by simp⟩
  · by_cases h2 : (3 : Int) < (f.2.length : Int)
    · rw [decide_eq_true h2]; exact ⟨_, rfl, by simp⟩
    · rw [decide_eq_false h2, areValues_M _ hf]
      cases h3 : valsOk f.2
      · exact ⟨_, rfl, by simp⟩
      · rw [inR_iff] at h1
        obtain ⟨r2, a2, b2⟩ := joined_M f.2 (by omega) (all_in h3)
        have a1 := itoa_M f.1 (by omega) (by omega)
        have l0 : List.length (Str.of [UInt8.ofNat (48 + f.1.toNat)]) = 1 := rfl
        have l1 : List.length (str [109]) = 1 := rfl
        have l2 : List.length (str [40]) = 1 := rfl
        have l3 : List.length (str [41]) = 1 := rfl
        simp only [Option.bind_some, Bool.not_true, Bool.false_eq_true, if_false, if_true]
        rw [a1, Option.bind_some, cat_ok _ _ (by omega), Option.bind_some, cat_ok _ _ (by rw [catS_len]; omega), Option.bind_some, a2, Option.bind_some, cat_ok _ _ (by rw [catS_len, catS_len]; omega), Option.bind_some, cat_ok _ _ (by rw [catS_len, catS_len, catS_len]; omega)]
        refine ⟨_, rfl, ?_⟩
        have hn : ¬ catS (catS (catS (catS (str [109]) (Str.of [UInt8.ofNat (48 + f.1.toNat)])) (str [40])) r2) (str [41]) = str [] := not_nil (by rw [catS_len]; omega)
        exact ⟨fun h => absurd h hn, fun h => by simp at h⟩
/-! numbers as bytes -/
def encI (n : Int) : Li := if 0 ≤ n ∧ n ≤ 562949953421311 then enc n.toNat else []
def encL (l : List Int) : Li := l.flatMap encI
theorem encI_len (n : Int) : (encI n).length ≤ 7 := by
  unfold encI
  split
  · exact enc_len 6 _ (by simp; omega)
  · simp
theorem encL_len : ∀ l : List Int, (encL l).length ≤ 7 * l.length
  | [] => by simp [encL]
  | a :: l => by
    have h1 := encI_len a
    have h2 := encL_len l
    have e : encL (a :: l) = encI a ++ encL l := rfl
    rw [e, List.length_append, List.length_cons]; omega
theorem cat_str (a b : Li) (h : a.length + b.length ≤ 4294967296) : cat (str a) (str b) = some (str (a ++ b)) := cat_ok a b h
def reqT (f : Fa) (p : Int) : Li := if okA f && inR p 1 9 then encL (f.1 :: p :: (f.2.length : Int) :: f.2) else []
theorem okA_len {f : Fa} (h : okA f = true) : f.2.length ≤ 3 := by
  unfold okA at h
  simp only [Bool.and_eq_true, Bool.not_eq_true', decide_eq_false_iff_not] at h
  omega
theorem okF_len {f : Fa} (h : okF f = true) : 1 ≤ f.2.length ∧ f.2.length ≤ 3 := by
  unfold okF at h
  simp only [Bool.and_eq_true, inR_iff] at h
  omega
theorem dec_iff {t : Str} {b : Bool} (h : t = str [] ↔ b = false) : decide (t = str []) = !b := by
  cases b
  · exact decide_eq_true (h.2 rfl)
  · exact decide_eq_false fun e => by have := h.1 e; cases this
theorem reqT_len (f : Fa) (p : Int) : (reqT f p).length ≤ 1000 := by
  unfold reqT
  split
  · rename_i h
    have h1 := okA_len (Bool.and_eq_true_iff.1 h).1
    have h2 := encL_len (f.1 :: p :: (f.2.length : Int) :: f.2)
    simp only [List.length_cons] at h2
    omega
  · simp
/-! replies -/
def repF (f : Fa) : Li := encL (f.1 :: (f.2.length : Int) :: f.2)
def repB (l : List Fa) : Li := encI (l.length : Int) ++ l.flatMap repF
def repT (l : List Fa) : Li := if l.length ≤ 24 ∧ (l.all okF) = true then repB l else []
theorem repF_len {f : Fa} (h : okF f = true) : (repF f).length ≤ 35 := by
  have := okF_len h
  have h2 := encL_len (f.1 :: (f.2.length : Int) :: f.2)
  unfold repF
  simp only [List.length_cons] at h2
  omega
theorem flat_len {α : Type} (g : α → Li) (m : Nat) : ∀ l : List α, (∀ a ∈ l, (g a).length ≤ m) → (l.flatMap g).length ≤ m * l.length
  | [], _ => by simp
  | a :: l, h => by
    have h1 := h a (by simp)
    have h2 := flat_len g m l (fun b hb => h b (by simp [hb]))
    rw [List.flatMap_cons, List.length_append, List.length_cons, Nat.mul_add]; omega
theorem repT_len (l : List Fa) : (repT l).length ≤ 1000 := by
  unfold repT
  split
  · rename_i h
    have h1 := encI_len (l.length : Int)
    have h2 := flat_len repF 35 l (fun f hf => repF_len (List.all_eq_true.1 h.2 f hf))
    unfold repB
    rw [List.length_append]; omega
  · simp
theorem facts_len {l : List Fa} (h : SZ.sm l) : ∀ f ∈ l, f.2.length ≤ 4294967296 := fun f hf => by
  have h1 : SZ.sm f := (sm_list h).2 f hf
  have h2 : f.2.length ≤ 1048576 := (sm_list h1.2).1
  omega
end Go.Gx.Px
