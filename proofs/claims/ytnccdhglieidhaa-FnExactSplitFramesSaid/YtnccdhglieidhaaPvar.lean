/- Plain laws: varints. Conditions: none. -/
import Derived.Test.YtnccdhglieidhaaPn
set_option linter.unusedVariables false
set_option linter.unusedSimpArgs false
namespace Go.Gx.Px
theorem shr7 (x : Int) (h0 : 0 ≤ x) (h1 : x < 2 ^ 62) : shr x 7 = w64 (x.tdiv 128) := by
  have h2 : x.tdiv 128 = x / 128 := Int.tdiv_eq_ediv_of_nonneg h0
  have h3 : shr x 7 = x / 128 := by
    unfold shr
    rw [Int.fdiv_eq_ediv_of_nonneg _ (by decide)]
    rfl
  rw [h2, h3, w64_id (by omega) (by omega)]
theorem w8_mod (x : Int) : w8 x = x % 256 := by
  unfold w8
  simp [IntKind.wrap, IntKind.bits, IntKind.signed]
theorem or128 (n : Nat) : ((BitVec.ofNat 8 n) ||| 128#8).toNat = 128 + n % 128 := by
  have h : ∀ b : BitVec 8, (b ||| 128#8).toNat = 128 + b.toNat % 128 := by decide +kernel
  rw [h]
  simp
theorem byte_same (x : Int) (h0 : 0 ≤ x) : UInt8.ofNat (Int.toNat (bor8 (w8 x) 128)) = u8 (w64 (128 + x.tmod 128)) := by
  have h2 : x.tmod 128 = x % 128 := Int.tmod_eq_emod_of_nonneg h0
  have h4 : w64 (128 + x.tmod 128) = 128 + x % 128 := by rw [h2, w64_id (by omega) (by omega)]
  have h5 : bor8 (w8 x) 128 = 128 + x % 128 := by
    unfold bor8
    rw [w8_eq, w8_mod, w8_mod]
    have e1 : BitVec.ofInt 8 (x % 256) = BitVec.ofNat 8 (x % 256).toNat := by
      rw [← BitVec.ofInt_natCast]; congr 1; omega
    have e2 : BitVec.ofInt 8 128 = 128#8 := rfl
    rw [e1, e2, or128]
    omega
  rw [h5, h4]
  unfold u8
  rw [w8_mod]
  congr 1
  omega
theorem Varint_same : ∀ (n : Nat) (x : Int) (l : List UInt8), 0 ≤ x → x < 2 ^ 62 → M.EncodeVarint_l1 n x l = S.EncodeVarint_l1 n x l
  | 0, _, _, _, _ => rfl
  | n + 1, x, l, h0, h1 => by
    rw [M.EncodeVarint_l1, S.EncodeVarint_l1, byte_same x h0]
    by_cases hc : 128 ≤ x
    · rw [if_pos (by simpa using hc), if_pos (by simpa using hc), shr7 x h0 h1]
      have h2 : x.tdiv 128 = x / 128 := Int.tdiv_eq_ediv_of_nonneg h0
      have h3 : w64 (x.tdiv 128) = x / 128 := by rw [h2, w64_id (by omega) (by omega)]
      congr 1
      funext y
      rw [h3]
      exact Varint_same n (x / 128) y (by omega) (by omega)
    · rw [if_neg (by simpa using hc), if_neg (by simpa using hc)]
/-- the bytes of a number -/
def enc (n : Nat) : List UInt8 := if h : n < 128 then [UInt8.ofNat n] else UInt8.ofNat (128 + n % 128) :: enc (n / 128)
termination_by n
decreasing_by omega
theorem u8_nat (x : Int) (h0 : 0 ≤ x) (h1 : x < 256) : u8 x = UInt8.ofNat x.toNat := by
  unfold u8; rw [w8_mod]; congr 1; omega
theorem enc_len : ∀ (b x : Nat), x < 128 ^ (b + 1) → (enc x).length ≤ b + 1 := by
  intro b
  induction b with
  | zero => intro x h; rw [enc, dif_pos (by simpa using h)]; simp
  | succ b ih =>
    intro x h
    rw [enc]
    split
    · simp
    · rw [Nat.pow_succ] at h
      generalize 128 ^ (b + 1) = P at h ih
      have := ih (x / 128) (by omega)
      simp only [List.length_cons]; omega
theorem enc_loop : ∀ (b K x : Nat) (l : List UInt8), x < 128 ^ (b + 1) → b < K → l.length + b + 1 ≤ 4294967296 → x < 2 ^ 62 → (S.EncodeVarint_l1 K x l).bind (fun (y, m) => (app m [u8 y]).bind fun x7 => some (Str.of x7)) = some (Str.of (l ++ enc x)) := by
  intro b
  induction b with
  | zero =>
    intro K x l h hK hl _
    obtain ⟨K, rfl⟩ : ∃ k, K = k + 1 := ⟨K - 1, by omega⟩
    have h' : x < 128 := by simpa using h
    rw [S.EncodeVarint_l1, if_neg (by simp; omega), Option.bind_some]
    simp only
    rw [app_eq _ _ (by simp; omega), Option.bind_some, enc, dif_pos h', u8_nat _ (by omega) (by omega)]
    simp
  | succ b ih =>
    intro K x l h hK hl hx
    obtain ⟨K, rfl⟩ : ∃ k, K = k + 1 := ⟨K - 1, by omega⟩
    rw [S.EncodeVarint_l1]
    by_cases hc : 128 ≤ x
    · have e1 : w64 ((x : Int).tdiv 128) = ((x / 128 : Nat) : Int) := by rw [Int.tdiv_eq_ediv_of_nonneg (by omega), w64_id (by omega) (by omega)]; omega
      have e2 : u8 (w64 (128 + (x : Int).tmod 128)) = UInt8.ofNat (128 + x % 128) := by
        rw [Int.tmod_eq_emod_of_nonneg (by omega), w64_id (by omega) (by omega), u8_nat _ (by omega) (by omega)]; congr 1
      rw [if_pos (by simp; omega), app_eq _ _ (by simp; omega), Option.bind_some, e1, e2]
      rw [Nat.pow_succ] at h
      have hp : x / 128 < 128 ^ (b + 1) := by generalize 128 ^ (b + 1) = P at h; omega
      rw [ih K (x / 128) _ hp (by omega) (by simp; omega) (by omega)]
      conv => rhs; rw [enc, dif_neg (by omega)]
      simp
    · rw [if_neg (by simp; omega), Option.bind_some]
      simp only
      rw [app_eq _ _ (by simp; omega), Option.bind_some, enc, dif_pos (by omega), u8_nat _ (by omega) (by omega)]
      simp
theorem EncodeVarint_S (x : Nat) (h : x < 562949953421312) : S.EncodeVarint x = some (Str.of (enc x)) := by
  unfold S.EncodeVarint
  have hr : inR (x : Int) 0 562949953421311 = true := by rw [inR_iff]; omega
  rw [inS, hr, Option.bind_some, if_neg (by simp), enc_loop 6 FUEL x [] (by simpa using h) (by rw [FUEL_eq]; omega) (by simp) (by omega)]
  rfl
theorem EncodeVarint_M (x : Nat) (h : x < 562949953421312) : M.EncodeVarint x = some (Str.of (enc x)) := by
  rw [← EncodeVarint_S x h]
  unfold M.EncodeVarint S.EncodeVarint
  rw [inS, inM, Varint_same FUEL x [] (by omega) (by omega)]
/-- the number of some bytes -/
def vv : List UInt8 → Nat
  | [] => 0
  | b :: l => b.toNat % 128 + 128 * vv l
/-- bytes that a number may have -/
def okG : Bool → List UInt8 → Bool
  | _, [] => false
  | f, [b] => decide (b.toNat < 128) && (f || decide (b.toNat ≠ 0))
  | _, b :: c :: l => decide (128 ≤ b.toNat) && okG false (c :: l)
theorem enc_ok : ∀ (k n : Nat) (f : Bool), n ≤ k → (f = true ∨ 0 < n) → okG f (enc n) = true := by
  intro k
  induction k with
  | zero => intro n f h h2; obtain rfl : n = 0 := by omega
            rcases h2 with rfl | h2
            · rw [enc, dif_pos (by omega)]; rfl
            · omega
  | succ k ih =>
    intro n f h h2
    rw [enc]
    by_cases hn : n < 128
    · rw [dif_pos hn]
      unfold okG
      have : (UInt8.ofNat n).toNat = n := by simp; omega
      rw [this]
      rcases h2 with rfl | h2
      · simp [hn]
      · have : n ≠ 0 := by omega
        simp [hn, this]
    · rw [dif_neg hn]
      have h3 := ih (n / 128) false (by omega) (by right; omega)
      have h4 : (UInt8.ofNat (128 + n % 128)).toNat = 128 + n % 128 := by simp; omega
      generalize he : enc (n / 128) = e at h3
      cases e with
      | nil => simp [okG] at h3
      | cons c l =>
        unfold okG
        rw [h4, h3]; simp
theorem ok_pos : ∀ l : List UInt8, okG false l = true → 0 < vv l
  | [], h => by simp [okG] at h
  | [b], h => by simp [okG, vv] at h ⊢; omega
  | b :: c :: l, h => by
    simp only [okG, Bool.and_eq_true] at h
    have := ok_pos (c :: l) h.2
    rw [vv]; omega
theorem ok_enc : ∀ (l : List UInt8) (f : Bool), okG f l = true → enc (vv l) = l
  | [], f, h => by simp [okG] at h
  | [b], f, h => by
    simp only [okG, Bool.and_eq_true, decide_eq_true_eq] at h
    rw [enc, dif_pos (by simp [vv]; omega)]
    have e : vv [b] = b.toNat := by simp [vv]; omega
    rw [e]; simp
  | b :: c :: l, f, h => by
    simp only [okG, Bool.and_eq_true, decide_eq_true_eq] at h
    have h1 := ok_pos _ h.2
    have h2 := ok_enc (c :: l) false h.2
    have hb := b.toNat_lt
    have e : vv (b :: c :: l) = b.toNat % 128 + 128 * vv (c :: l) := rfl
    rw [e, enc, dif_neg (by omega), show (b.toNat % 128 + 128 * vv (c :: l)) / 128 = vv (c :: l) by omega, h2, show 128 + (b.toNat % 128 + 128 * vv (c :: l)) % 128 = b.toNat by omega]
    simp
theorem enc_vv (l : List UInt8) : (enc (vv l) = l) ↔ okG true l = true :=
  ⟨fun h => h ▸ enc_ok _ _ true (Nat.le_refl _) (.inl rfl), fun h => ok_enc l true h⟩
theorem vv_lt : ∀ l : List UInt8, vv l < 128 ^ l.length
  | [] => by simp [vv]
  | b :: l => by
    have := vv_lt l
    rw [vv, List.length_cons, Nat.pow_succ]
    generalize 128 ^ l.length = P at this
    omega
theorem vv_snoc : ∀ (l : List UInt8) (b : UInt8), vv (l ++ [b]) = vv l + b.toNat % 128 * 128 ^ l.length
  | [], b => by simp [vv]
  | a :: l, b => by
    rw [List.cons_append, vv, vv_snoc l b, vv, List.length_cons, Nat.pow_succ, Nat.mul_add]
    have : 128 * (b.toNat % 128 * 128 ^ l.length) = b.toNat % 128 * (128 ^ l.length * 128) := by
      rw [Nat.mul_left_comm, Nat.mul_comm 128 (128 ^ l.length)]
    omega
/-! reading -/
theorem okG_snoc : ∀ (l : List UInt8) (b : UInt8) (f : Bool), okG f (l ++ [b]) = (l.all (fun c => decide (128 ≤ c.toNat)) && (decide (b.toNat < 128) && ((f && l.isEmpty) || decide (b.toNat ≠ 0))))
  | [], b, f => by simp [okG]
  | [x], b, f => by simp [okG]
  | x :: y :: l, b, f => by
    have := okG_snoc (y :: l) b false
    rw [List.cons_append] at this
    rw [List.cons_append, List.cons_append, okG, this]
    simp [Bool.and_assoc]
def hD (a : List UInt8) (i : Nat) : Option (Int × Int) := if okG true (a.take (i + 1)) then some (((vv (a.take (i + 1)) : Nat) : Int), ((i + 1 : Nat) : Int)) else none
def dcd (a : List UInt8) : Int × Int := ((List.range (min 7 a.length)).findSome? (hD a)).getD (0, 0)
theorem take_snoc {α : Type} (a : List α) {i : Nat} (h : i < a.length) : a.take (i + 1) = a.take i ++ [a[i]] := by rw [List.take_add_one, List.getElem?_eq_getElem h]; rfl
def eqS (x y : Str) : Bool := decide (x = y)
theorem eqS_iff' (x y : Str) : eqS x y = true ↔ x = y := by
  unfold eqS; rw [decide_eq_true_eq]
theorem eqS_iff (x y : List UInt8) : eqS x y = true ↔ x = y := eqS_iff' x y
theorem S_l2 (a : List UInt8) (k : Nat) (x3 x4 : Int) : S.DecodeVarint_l2 a (k + 1) x3 x4 = if (decide (0 ≤ x4)) then
      (idx a x4).bind fun x6 =>
      S.DecodeVarint_l2 a k (w64 ((w64 (x3 * 128)) + ((w64 (UInt8.toNat x6 : Int)).tmod 128))) (w64 (x4 - 1))
    else
      some x3 := rfl
theorem S_l1 (a : List UInt8) (k : Nat) (x1 : Int) : S.DecodeVarint_l1 a (k + 1) x1 = (if (decide (x1 ≤ 7)) then
      some (decide (x1 ≤ (List.length a : Int)))
    else
      some false).bind fun x2 =>
    if x2 then
      (S.DecodeVarint_l2 a FUEL (0 : Int) (w64 (x1 - 1))).bind fun x5 =>
      (sub a 0 x1).bind fun x7 =>
      (S.EncodeVarint x5).bind fun x8 =>
      if (eqS x8 x7) then
        some (.inr (x5, x1))
      else
        S.DecodeVarint_l1 a k (w64 (x1 + 1))
    else
      some (.inl ()) := rfl
theorem M_l1 (a : List UInt8) (k : Nat) (x1 x2 : Int) : M.DecodeVarint_l1 a (k + 1) x1 x2 = if (decide (x2 < (if (List.length a : Int) < 7 then (List.length a : Int) else 7))) then
      (idx a x2).bind fun x3 =>
      (nn (w64 (7 * x2))).bind fun _ =>
      (idx a x2).bind fun x4 =>
      if (decide (128 ≤ (UInt8.toNat x4 : Int))) then
        M.DecodeVarint_l1 a k (bor x1 (shl (w64 (band8 (UInt8.toNat x3 : Int) 127)) (w64 (7 * x2)))) (w64 (x2 + 1))
      else
        (if (decide (0 < x2)) then
          (idx a x2).bind fun x6 =>
          some (decide ((UInt8.toNat x6 : Int) = 0))
        else
          some false).bind fun x5 =>
        if x5 then
          some (.inr (0, 0))
        else
          some (.inr (bor x1 (shl (w64 (band8 (UInt8.toNat x3 : Int) 127)) (w64 (7 * x2))), w64 (x2 + 1)))
    else
      some (.inl ()) := rfl
theorem horner (a : List UInt8) : ∀ (i K x : Nat), i < a.length → i < 1000 → x * 128 ^ (i + 1) + 128 ^ (i + 1) ≤ 1125899906842624 → i + 1 < K → S.DecodeVarint_l2 a K (x : Int) (i : Int) = some ((x * 128 ^ (i + 1) + vv (a.take (i + 1)) : Nat) : Int) := by
  intro i
  induction i with
  | zero =>
    intro K x hi hi9 hx hK
    obtain ⟨K, rfl⟩ : ∃ k, K = k + 2 := ⟨K - 2, by omega⟩
    have hb := a[0].toNat_lt
    rw [S_l2, if_pos (by simp), idx_nat a hi, Option.bind_some, S_l2, w64_sm (n := ((0 : Nat) : Int) - 1) (by omega) (by omega), if_neg (by simp), w64_id (n := (x : Int) * 128) (by omega) (by omega), w64_id (n := (a[0].toNat : Int)) (by omega) (by omega), Int.tmod_eq_emod_of_nonneg (by omega), w64_id (by omega) (by omega), take_snoc a hi]
    simp [vv]
  | succ i ih =>
    intro K x hi hi9 hx hK
    obtain ⟨K, rfl⟩ : ∃ k, K = k + 1 := ⟨K - 1, by omega⟩
    have hb := a[i + 1].toNat_lt
    have hP : 128 ≤ 128 ^ (i + 1) := by rw [Nat.pow_succ]; have := Nat.pow_pos (n := i) (show 0 < 128 by omega); omega
    rw [Nat.pow_succ] at hx
    have h1 : x * 128 ≤ x * (128 ^ (i + 1) * 128) := Nat.mul_le_mul_left x (by omega)
    have e1 : w64 (w64 ((x : Int) * 128) + (w64 (a[i + 1].toNat : Int)).tmod 128) = ((x * 128 + a[i + 1].toNat % 128 : Nat) : Int) := by
      rw [w64_id (n := (x : Int) * 128) (by omega) (by omega), w64_id (n := (a[i + 1].toNat : Int)) (by omega) (by omega), Int.tmod_eq_emod_of_nonneg (by omega), w64_id (by omega) (by omega)]; omega
    have e2 : w64 (((i + 1 : Nat) : Int) - 1) = (i : Int) := by rw [w64_sm (by omega) (by omega)]; omega
    rw [S_l2, if_pos (by simp; omega), idx_nat a hi, Option.bind_some, e1, e2, take_snoc a hi, vv_snoc, List.length_take, Nat.min_eq_left (by omega), Nat.pow_succ 128 (i + 1)]
    have h2 : (x * 128 + a[i + 1].toNat % 128) * 128 ^ (i + 1) = x * (128 ^ (i + 1) * 128) + a[i + 1].toNat % 128 * 128 ^ (i + 1) := by
      rw [Nat.add_mul, Nat.mul_assoc, Nat.mul_comm 128 (128 ^ (i + 1))]
    have h3 : a[i + 1].toNat % 128 * 128 ^ (i + 1) + 128 ^ (i + 1) ≤ 128 ^ (i + 1) * 128 := by
      rw [← Nat.succ_mul, Nat.mul_comm (128 ^ (i + 1)) 128]; exact Nat.mul_le_mul_right _ (by omega)
    rw [ih K _ (by omega) (by omega) (by rw [h2]; omega) (by omega), h2]
    congr 2
    omega
theorem sum_loop {β : Type} (f : Nat → Int → Option (Sum Unit β)) (n : Nat) (h : Nat → Option β) (hn : n ≤ 4294967296) (he : ∀ k, f (k + 1) (n : Int) = some (.inl ()))
    (hs : ∀ k (i : Nat), i < n → f (k + 1) (i : Int) = (match h i with | some b => some (.inr b) | none => f k ((i + 1 : Nat) : Int))) :
    f FUEL 0 = some (match (List.range n).findSome? h with | some b => .inr b | none => .inl ()) := by
  have key : ∀ (K i : Nat), i ≤ n → n < i + K → f K (i : Int) = some (match ((List.range n).drop i).findSome? h with | some b => .inr b | none => .inl ()) := by
    intro K
    induction K with
    | zero => intro i h1 h2; omega
    | succ K ih =>
      intro i h1 h2
      by_cases hi : i < n
      · rw [hs K i hi, List.drop_eq_getElem_cons (by simpa using hi), List.findSome?_cons, List.getElem_range]
        cases h i with
        | some b => rfl
        | none => exact ih (i + 1) (by omega) (by omega)
      · obtain rfl : i = n := by omega
        have e0 : (List.range i).drop i = [] := List.drop_eq_nil_of_le (by simp)
        rw [he, e0]; rfl
  have := key FUEL 0 (by omega) (by rw [FUEL_eq]; omega)
  simpa using this
theorem vv_take_lt (a : List UInt8) {i : Nat} (h : i < 7) : vv (a.take (i + 1)) < 562949953421312 := by
  refine Nat.lt_of_lt_of_le (vv_lt _) (Nat.le_trans (Nat.pow_le_pow_right (by omega) (?_ : _ ≤ 7)) (by decide))
  rw [List.length_take]; omega
theorem DecodeVarint_S (a : List UInt8) (hl : a.length ≤ 1048576) : S.DecodeVarint a = some (dcd a) := by
  have hlo := sum_loop (fun k x => S.DecodeVarint_l1 a k (x + 1)) (min 7 a.length) (hD a) (by omega) (fun k => by
    show S.DecodeVarint_l1 a (k + 1) (((min 7 a.length : Nat) : Int) + 1) = _
    rw [S_l1]
    by_cases h7 : ((min 7 a.length : Nat) : Int) + 1 ≤ 7
    · rw [if_pos (by simpa using h7), Option.bind_some, if_neg (by simp only [decide_eq_true_eq]; show ¬ ((min 7 a.length : Nat) : Int) + 1 ≤ (a.length : Int); omega)]
    · rw [if_neg (by simpa using h7), Option.bind_some, if_neg (by simp)]) (fun k i hi => by
    have hi7 : i < 7 := by omega
    have hia : i < a.length := by omega
    have hv := vv_take_lt a hi7
    have hP : 128 ^ (i + 1) ≤ 128 ^ 7 := Nat.pow_le_pow_right (by omega) (by omega)
    show S.DecodeVarint_l1 a (k + 1) ((i : Int) + 1) = _
    have e1 : w64 ((i : Int) + 1 - 1) = (i : Int) := by rw [w64_sm (by omega) (by omega)]; omega
    have hho := horner a i FUEL 0 hia (by omega) (by rw [Nat.zero_mul]; exact Nat.le_trans (by omega) (show 128 ^ 7 ≤ 1125899906842624 by decide)) (by rw [FUEL_eq]; omega)
    rw [Nat.zero_mul, Nat.zero_add] at hho
    have hsub : sub a 0 ((i : Int) + 1) = some (a.take (i + 1)) := by
      unfold sub
      rw [if_pos ⟨by omega, by omega, by omega⟩]
      rfl
    rw [S_l1, if_pos (by simp; omega), Option.bind_some, if_pos (by simp only [decide_eq_true_eq]; show (i : Int) + 1 ≤ (a.length : Int); omega), e1]
    rw [show S.DecodeVarint_l2 a FUEL 0 (i : Int) = _ from hho, Option.bind_some, hsub, Option.bind_some, EncodeVarint_S _ hv, Option.bind_some]
    unfold hD
    by_cases hok : okG true (a.take (i + 1)) = true
    · have e2 := (enc_vv _).2 hok
      rw [if_pos hok, if_pos ((eqS_iff _ _).2 e2)]
      rfl
    · rw [if_neg hok, if_neg (fun h => hok ((enc_vv _).1 ((eqS_iff _ _).1 h)))]
      rw [w64_sm (by omega) (by omega)]
      rfl)
  have hlo' : S.DecodeVarint_l1 a FUEL 1 = _ := hlo
  show (S.DecodeVarint_l1 a FUEL 1).bind _ = _
  rw [hlo']
  unfold dcd
  cases (List.range (min 7 a.length)).findSome? (hD a) <;> rfl
theorem and127 (b : UInt8) : w64 (band8 (UInt8.toNat b : Int) 127) = ((b.toNat % 128 : Nat) : Int) := by
  have h : ∀ c : BitVec 8, (c &&& 127#8).toNat = c.toNat % 128 := by decide +kernel
  have hb := b.toNat_lt
  have e : band8 (UInt8.toNat b : Int) 127 = ((b.toNat % 128 : Nat) : Int) := by
    unfold band8
    rw [w8_eq, w8_mod]
    have e1 : BitVec.ofInt 8 (b.toNat : Int) = BitVec.ofNat 8 b.toNat := by rw [← BitVec.ofInt_natCast]
    have e2 : BitVec.ofInt 8 127 = 127#8 := rfl
    rw [e1, e2, h]
    simp only [BitVec.toNat_ofNat]
    omega
  rw [e, w64_id (by omega) (by omega)]
theorem bor_add (x y i : Nat) (hx : x < 128 ^ i) (hy : y < 128) (hi : i < 7) : bor (x : Int) (shl (y : Int) (w64 (7 * (i : Int)))) = ((x + y * 128 ^ i : Nat) : Int) := by
  have hP : 128 ^ i ≤ 128 ^ 6 := Nat.pow_le_pow_right (by omega) (by omega)
  have hP' : 128 ^ i ≤ 4398046511104 := hP
  have hm : y * 128 ^ i ≤ 127 * 128 ^ i := Nat.mul_le_mul_right _ (by omega)
  have e1 : shl (y : Int) (w64 (7 * (i : Int))) = ((y * 128 ^ i : Nat) : Int) := by
    unfold shl
    rw [w64_sm (n := 7 * (i : Int)) (by omega) (by omega), show (7 * (i : Int)).toNat = 7 * i by omega, Nat.min_eq_left (by omega)]
    have e2 : (2 : Int) ^ (7 * i) = ((128 ^ i : Nat) : Int) := by
      rw [Int.pow_mul]; simp
    rw [e2, ← Int.natCast_mul, w64_id (by omega) (by omega)]
  rw [e1]
  unfold bor
  rw [w64_eq]
  have e3 : (BitVec.ofInt 64 (x : Int) ||| BitVec.ofInt 64 ((y * 128 ^ i : Nat) : Int)).toNat = x + y * 128 ^ i := by
    rw [BitVec.ofInt_natCast, BitVec.ofInt_natCast, BitVec.toNat_or, BitVec.toNat_ofNat, BitVec.toNat_ofNat, Nat.mod_eq_of_lt (by omega), Nat.mod_eq_of_lt (by omega)]
    have e4 : (128 : Nat) ^ i = 2 ^ (7 * i) := by rw [Nat.pow_mul]
    rw [e4] at hx ⊢
    have := Nat.two_pow_add_eq_or_of_lt hx y
    rw [Nat.or_comm, Nat.mul_comm y, ← this]; omega
  rw [e3, w64_id (by omega) (by omega)]
theorem hD_snoc (a : List UInt8) {i : Nat} (h : i < a.length) : okG true (a.take (i + 1)) = ((a.take i).all (fun c => decide (128 ≤ c.toNat)) && (decide (a[i].toNat < 128) && (decide (i = 0) || decide (a[i].toNat ≠ 0)))) := by
  rw [take_snoc a h, okG_snoc]
  congr 3
  rw [Bool.true_and, Bool.eq_iff_iff, List.isEmpty_iff, decide_eq_true_eq]
  rw [List.take_eq_nil_iff]
  refine ⟨fun h => h.elim id (fun h => ?_), .inl⟩
  subst h; simp at *
theorem findSome_none {α β : Type} (l : List α) (f : α → Option β) (h : ∀ a ∈ l, f a = none) : l.findSome? f = none := by
  induction l with
  | nil => rfl
  | cons a l ih => rw [List.findSome?_cons, h a (List.mem_cons_self ..)]; exact ih (fun b hb => h b (List.mem_cons_of_mem _ hb))
theorem DecodeVarint_M (a : List UInt8) (hl : a.length ≤ 1048576) : M.DecodeVarint a = some (dcd a) := by
  have hmin : (if (List.length a : Int) < 7 then (List.length a : Int) else 7) = ((min 7 a.length : Nat) : Int) := by split <;> omega
  have key : ∀ (K i : Nat), i ≤ min 7 a.length → min 7 a.length < i + K → (a.take i).all (fun c => decide (128 ≤ c.toNat)) = true →
      (M.DecodeVarint_l1 a K ((vv (a.take i) : Nat) : Int) (i : Int)).bind (fun o => match o with | .inl () => some ((0 : Int), (0 : Int)) | .inr r => some r) = some ((((List.range (min 7 a.length)).drop i).findSome? (hD a)).getD (0, 0)) := by
    intro K
    induction K with
    | zero => intro i h1 h2; omega
    | succ K ih =>
      intro i h1 h2 h3
      rw [M_l1, hmin]
      by_cases hi : i < min 7 a.length
      · have hia : i < a.length := by omega
        have hs := hD_snoc a hia
        rw [h3, Bool.true_and] at hs
        have hP := vv_lt (a.take i)
        rw [List.length_take, Nat.min_eq_left (by omega)] at hP
        have hb := a[i].toNat_lt
        have e1 : bor ((vv (a.take i) : Nat) : Int) (shl (w64 (band8 (UInt8.toNat a[i] : Int) 127)) (w64 (7 * (i : Int)))) = ((vv (a.take (i + 1)) : Nat) : Int) := by
          rw [and127, bor_add _ _ i hP (by omega) (by omega), take_snoc a hia, vv_snoc, List.length_take, Nat.min_eq_left (by omega)]
        have e2 : nn (w64 (7 * (i : Int))) = some () := by rw [w64_sm (by omega) (by omega)]; unfold nn; rw [if_pos (by omega)]
        rw [if_pos (by simp; omega), idx_nat a hia, Option.bind_some, e2, Option.bind_some, Option.bind_some, e1, w64_succ (by omega)]
        rw [List.drop_eq_getElem_cons (by simpa using hi), List.findSome?_cons, List.getElem_range]
        unfold hD
        rw [hs]
        by_cases c1 : 128 ≤ a[i].toNat
        · rw [if_pos (by simp; omega), if_neg (by simp; omega)]
          refine ih (i + 1) (by omega) (by omega) ?_
          rw [take_snoc a hia, List.all_append, h3]
          simpa using c1
        · rw [if_neg (by simp; omega)]
          by_cases c2 : 0 < i ∧ a[i].toNat = 0
          · rw [if_pos (by simp; omega), Option.bind_some, decide_eq_true (show (a[i].toNat : Int) = 0 by omega), Option.bind_some, if_pos rfl, Option.bind_some, if_neg (by rw [decide_eq_false (show ¬ i = 0 by omega), decide_eq_false (show ¬ a[i].toNat ≠ 0 by omega)]; simp)]
            have : ((List.range (min 7 a.length)).drop (i + 1)).findSome? (hD a) = none := by
              refine findSome_none _ _ fun j hj => ?_
              obtain ⟨k, hk, rfl⟩ := List.getElem_of_mem hj
              rw [List.length_drop, List.length_range] at hk
              rw [List.getElem_drop, List.getElem_range]
              have hj : i + 1 + k < a.length := by omega
              unfold hD
              rw [hD_snoc a hj]
              have : (a.take (i + 1 + k)).all (fun c => decide (128 ≤ c.toNat)) = false := by
                rw [List.all_eq_false]
                refine ⟨a[i], ?_, by simp; omega⟩
                rw [List.mem_take_iff_getElem]
                exact ⟨i, by omega, rfl⟩
              rw [this]; rfl
            unfold hD at this
            simp only [this]
            rfl
          · have c3 : (if decide (0 < (i : Int)) = true then (some a[i]).bind fun x6 => some (decide ((UInt8.toNat x6 : Int) = 0)) else some false) = some false := by
              by_cases c4 : 0 < i
              · rw [if_pos (by simpa using c4), Option.bind_some]
                have : ¬ (a[i].toNat : Int) = 0 := by omega
                rw [decide_eq_false this]
              · rw [if_neg (by simpa using c4)]
            rw [c3, Option.bind_some, if_neg (by simp), Option.bind_some, if_pos (by simp; omega)]
            rfl
      · obtain rfl : i = min 7 a.length := by omega
        have e0 : (List.range (min 7 a.length)).drop (min 7 a.length) = [] := List.drop_eq_nil_of_le (by simp)
        rw [if_neg (by simp), e0]; rfl
  have := key FUEL 0 (by omega) (by rw [FUEL_eq]; omega) (by simp)
  rw [List.drop_zero] at this
  exact this
theorem dcd_r (a : List UInt8) : dcd a = (0, 0) ∨ ∃ n s : Nat, dcd a = ((n : Int), (s : Int)) ∧ n < 562949953421312 ∧ 1 ≤ s ∧ s ≤ 7 ∧ s ≤ a.length := by
  unfold dcd
  cases h : (List.range (min 7 a.length)).findSome? (hD a) with
  | none => exact .inl rfl
  | some r =>
    obtain ⟨i, hi, h2⟩ := List.exists_of_findSome?_eq_some h
    rw [List.mem_range] at hi
    unfold hD at h2
    split at h2
    · cases h2
      exact .inr ⟨_, _, rfl, vv_take_lt a (by omega), by omega, by omega, by omega⟩
    · cases h2
end Go.Gx.Px
