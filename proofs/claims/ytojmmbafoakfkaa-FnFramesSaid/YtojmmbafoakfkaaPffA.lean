/- Plain laws, many texts in one. Conditions: none. -/
import Derived.Test.YtojmmbafoakfkaaPlSp
import Derived.Test.YtojmmbafoakfkaaPlTy
set_option linter.unusedVariables false
set_option linter.unusedSimpArgs false
namespace Go.Gx.Px
abbrev Fa := Int × List Int
theorem inS (a b c : Int) : S.l1In a b c = some (inR a b c) := by
  unfold S.l1In inR
  by_cases h : b ≤ a <;> simp [h]
theorem inM (a b c : Int) : M.within a b c = some (inR a b c) := by
  unfold M.within inR
  by_cases h : b ≤ a <;> simp [h]
theorem any_loop {α β : Type} (f : Nat → Int → Option (Sum Unit β)) (a : List α) (q : α → Bool) (b : β) (hn : a.length ≤ 4294967296) (he : ∀ k, f (k + 1) (a.length : Int) = some (.inl ()))
    (hs : ∀ k (i : Nat) (hi : i < a.length), f (k + 1) (i : Int) = if q a[i] then some (.inr b) else f k ((i + 1 : Nat) : Int)) : f FUEL 0 = some (if a.any q then .inr b else .inl ()) := by
  rw [all_loop f a (fun e => !q e) b hn he (fun k i hi => by rw [hs k i hi]; cases q a[i] <;> rfl)]
  have : a.all (fun e => !q e) = !a.any q := by rw [List.any_eq_not_all_not]; simp
  rw [this]; cases a.any q <;> rfl
theorem l2One_eq (r : Int) (v : List Int) (h : v.length ≤ 1048576) : S.l2One r v = some (r, v) := by
  unfold S.l2One; rw [app_eq _ _ (by simp; omega)]; rfl

/-- a list is compared with another -/
def cmpL : List Int → List Int → Int
  | [], [] => 0
  | [], _ :: _ => -1
  | _ :: _, [] => 1
  | x :: a, y :: b => if x < y then -1 else if y < x then 1 else cmpL a b
def cmpF (a b : Int × List Int) : Int := if a.1 < b.1 then -1 else if b.1 < a.1 then 1 else cmpL a.2 b.2
theorem CompareFacts_S (a b : Int × List Int) (ha : a.2.length ≤ 4294967296) (hb : b.2.length ≤ 4294967296) : S.CompareFacts a b = some (cmpF a b) := by
  unfold S.CompareFacts
  by_cases h0 : a.1 = b.1
  · have hc : cmpF a b = cmpL a.2 b.2 := by unfold cmpF; rw [if_neg (by omega), if_neg (by omega)]
    rw [hc, if_neg (by simp [h0])]
    have key : ∀ (K i : Nat), i ≤ a.2.length → i ≤ b.2.length → a.2.length < i + K → (S.CompareFacts_l1 a b K (i : Int)).bind (fun o => match o with
        | .inl () => if (decide ((List.length a.2 : Int) < (List.length b.2 : Int))) then some (-1) else if (decide ((List.length b.2 : Int) < (List.length a.2 : Int))) then some 1 else some 0
        | .inr r => some r) = some (cmpL (a.2.drop i) (b.2.drop i)) := by
      intro K
      induction K with
      | zero => intro i h1 h2 h3; omega
      | succ K ih =>
        intro i h1 h2 h3
        rw [S.CompareFacts_l1]
        by_cases hi : i < a.2.length
        · rw [if_pos (show decide ((i : Int) < (List.length a.2 : Int)) = true by simpa using hi), Option.bind_some]
          by_cases hj : i < b.2.length
          · rw [if_pos (show decide ((i : Int) < (List.length b.2 : Int)) = true by simpa using hj)]
            simp only [Option.bind_some, idx_nat a.2 hi, idx_nat b.2 hj]
            rw [List.drop_eq_getElem_cons hi, List.drop_eq_getElem_cons hj]
            unfold cmpL
            by_cases g1 : a.2[i] < b.2[i]
            · simp [g1]
            · by_cases g2 : b.2[i] < a.2[i]
              · simp [g1, g2]
              · simp only [g1, g2, decide_false, Bool.false_eq_true, if_false]
                rw [w64_succ (by omega)]
                exact ih (i + 1) (by omega) (by omega) (by omega)
          · obtain rfl : i = b.2.length := by omega
            rw [if_neg (by simp), Option.bind_some, List.drop_length, List.drop_eq_getElem_cons hi]
            simp only
            rw [if_neg (by simp; omega), if_pos (by simpa using hi)]
            unfold cmpL; rfl
        · obtain rfl : i = a.2.length := by omega
          rw [if_neg (by simp), Option.bind_some, if_neg (by simp), Option.bind_some, List.drop_length]
          simp only
          by_cases hj : a.2.length < b.2.length
          · rw [List.drop_eq_getElem_cons hj]; unfold cmpL; simp [hj]
          · have : b.2.drop a.2.length = [] := List.drop_eq_nil_of_le (by omega)
            rw [this]; unfold cmpL; simp [hj]; omega
    have h9 := key FUEL 0 (by omega) (by omega) (by rw [FUEL_eq]; omega)
    rw [List.drop_zero, List.drop_zero] at h9
    exact h9
  · rw [if_pos (by simpa using h0)]
    unfold cmpF
    by_cases h1 : a.1 < b.1
    · simp [h1]
    · have : b.1 < a.1 := by omega
      simp [h1, this]
/-! schemas and facts -/
def schOk (s : List Int) : Bool := s.all (fun n => inR n 1 3) && inR (s.length : Int) 1 3
theorem IsSchema_S (s : List Int) (h : s.length ≤ 4294967296) : S.IsSchema s = some (schOk s) := by
  unfold S.IsSchema schOk
  rw [all_loop (S.IsSchema_l1 s) s (fun n => inR n 1 3) false h (fun k => by rw [S.IsSchema_l1, if_neg (by simp)]) (fun k i hi => by
    rw [S.IsSchema_l1, if_pos (by simpa using hi), idx_nat s hi, Option.bind_some, inS, Option.bind_some, w64_succ (by omega)]
    cases inR s[i] 1 3 <;> rfl)]
  cases s.all (fun n => inR n 1 3)
  · rfl
  · simp [inS]
theorem sch_len {s : List Int} (h : schOk s = true) : 1 ≤ s.length ∧ s.length ≤ 3 := by
  unfold schOk at h; rw [Bool.and_eq_true, inR_iff] at h; omega
theorem cmpL_anti : ∀ (a b : List Int), cmpL b a = - cmpL a b
  | [], [] => rfl
  | [], _ :: _ => rfl
  | _ :: _, [] => rfl
  | x :: a, y :: b => by
    unfold cmpL
    by_cases h : x < y
    · have : ¬ y < x := by omega
      simp [h, this]
    · by_cases h2 : y < x
      · simp [h, h2]
      · simp only [h, h2, if_false]; exact cmpL_anti a b
theorem cmpF_anti (a b : Fa) : cmpF b a = - cmpF a b := by
  unfold cmpF
  by_cases h : a.1 < b.1
  · have : ¬ b.1 < a.1 := by omega
    simp [h, this]
  · by_cases h2 : b.1 < a.1
    · simp [h, h2]
    · simp only [h, h2, if_false]; exact cmpL_anti _ _
def hasF (l : List Fa) (f : Fa) : Bool := l.any fun e => decide (cmpF e f = 0)
theorem sm_v {l : List Fa} (h : SZ.sm l) {e : Fa} (he : e ∈ l) : e.2.length ≤ 4294967296 := by have := (h.2 e he).2.1; omega
theorem HasFact_S (l : List Fa) (f : Fa) (hl : SZ.sm l) (hf : SZ.sm f) : S.HasFact l f = some (hasF l f) := by
  have h1 := hl.1
  have h2 := hf.2.1
  unfold S.HasFact hasF
  rw [any_loop (S.HasFact_l1 l f) l (fun e => decide (cmpF e f = 0)) true (by omega) (fun k => by rw [S.HasFact_l1, if_neg (by simp)]) (fun k i hi => by
    have := CompareFacts_S l[i] f (sm_v hl (List.getElem_mem hi)) (by omega)
    rw [S.HasFact_l1, if_pos (by simpa using hi), idx_nat l hi, Option.bind_some, show (f.1, f.2) = f from rfl, this, Option.bind_some, w64_succ (by omega)])]
  cases l.any (fun e => decide (cmpF e f = 0)) <;> rfl
def gtF (f e : Fa) : Bool := decide (0 < cmpF e f)
def addF (l : List Fa) (f : Fa) : List Fa := if hasF l f then l else l.take (l.findIdx (gtF f)) ++ [f] ++ l.drop (l.findIdx (gtF f))
theorem findIdx_le {α : Type} (q : α → Bool) (l : List α) : l.findIdx q ≤ l.length := List.findIdx_le_length
theorem sm_add {l : List Fa} {f : Fa} (hl : SZ.sm l) (hf : SZ.sm f) (hn : l.length + 1 ≤ 1048576) : SZ.sm (addF l f) := by
  unfold addF
  split
  · exact hl
  · refine ⟨by have := findIdx_le (gtF f) l; simp only [List.length_append, List.length_take, List.length_drop, List.length_cons, List.length_nil]; omega, fun e he => ?_⟩
    rcases List.mem_append.1 he with he | he
    · rcases List.mem_append.1 he with he | he
      · exact hl.2 e (List.mem_of_mem_take he)
      · simp at he; subst he; exact hf
    · exact hl.2 e (List.mem_of_mem_drop he)
theorem addF_len (l : List Fa) (f : Fa) : (addF l f).length ≤ l.length + 1 := by
  unfold addF
  split
  · omega
  · have := findIdx_le (gtF f) l; simp only [List.length_append, List.length_take, List.length_drop, List.length_cons, List.length_nil]; omega
theorem AddFact_S (l : List Fa) (f : Fa) (hl : SZ.sm l) (hf : SZ.sm f) : S.AddFact l f = some (addF l f) := by
  have h1 := hl.1
  have h2 := hf.2.1
  unfold S.AddFact
  rw [show (f.1, f.2) = f from rfl, HasFact_S l f hl hf, Option.bind_some]
  have hone : ∀ (i : Nat) (hi : i < l.length), S.l2One l[i].1 l[i].2 = some l[i] := fun i hi => l2One_eq _ _ (hl.2 _ (List.getElem_mem hi)).2.1
  have hc : ∀ (i : Nat) (hi : i < l.length), S.CompareFacts f l[i] = some (cmpF f l[i]) := fun i hi => CompareFacts_S f l[i] (by omega) (sm_v hl (List.getElem_mem hi))
  have hq : ∀ e : Fa, decide (cmpF f e < 0) = gtF f e := fun e => by unfold gtF; rw [cmpF_anti f e]; congr 1; exact propext ⟨fun h => by omega, fun h => by omega⟩
  unfold addF
  cases hasF l f
  · simp only [Bool.false_eq_true, if_false]
    generalize hp : l.findIdx (gtF f) = p
    have hple : p ≤ l.length := by rw [← hp]; exact findIdx_le _ _
    obtain ⟨k, s, g1, rfl⟩ := loop_inv0 (fun k (s : List Fa × Bool) i => S.AddFact_l1 l f k s.1 s.2 i) (fun i s => s = if p < i then (l.take p ++ [f] ++ (l.take i).drop p, true) else (l.take i, false)) l.length (by omega) (([] : List Fa), false) (by simp) (fun k i s hi hs => by
      subst hs
      refine ⟨_, ?_, rfl⟩
      have ht : l.take (i + 1) = l.take i ++ [l[i]] := by rw [List.take_add_one, List.getElem?_eq_getElem hi]; rfl
      by_cases c1 : p < i
      · have e1 : (l.take p ++ [f] ++ (l.take i).drop p) ++ [l[i]] = l.take p ++ [f] ++ (l.take (i + 1)).drop p := by
          rw [ht, List.drop_append_of_le_length (by rw [List.length_take]; omega), List.append_assoc]
        simp only [c1, if_true, show p < i + 1 by omega]
        rw [S.AddFact_l1, if_pos (by simpa using hi), idx_nat l hi]
        simp only [Bool.not_true, Bool.false_eq_true, if_false, Option.bind_some, hone i hi]
        rw [app_eq _ _ (by simp only [List.length_append, List.length_take, List.length_drop, List.length_cons, List.length_nil]; omega), Option.bind_some, w64_succ (by omega), show (l[i].1, l[i].2) = l[i] from rfl, e1]
      · have hgt : gtF f l[i] = decide (p = i) := by
          by_cases c2 : p = i
          · subst c2
            have := List.findIdx_getElem (xs := l) (p := gtF f) (w := by rw [hp]; exact hi)
            simp only [hp] at this
            rw [this]; simp
          · have h9 := List.not_of_lt_findIdx (xs := l) (p := gtF f) (i := i) (by omega)
            simp only [c2, decide_false]
            simpa using h9
        simp only [c1, if_false]
        rw [S.AddFact_l1, if_pos (by simpa using hi), idx_nat l hi]
        simp only [Bool.not_false, if_true, Option.bind_some, hc i hi, hq, hgt, hone i hi]
        by_cases c2 : p = i
        · subst c2
          simp only [decide_true, if_true, l2One_eq _ _ h2, Option.bind_some, show (f.1, f.2) = f from rfl, show p < p + 1 by omega]
          rw [app_eq _ _ (by simp only [List.length_take, List.length_cons, List.length_nil]; omega)]
          simp only [Option.bind_some]
          rw [app_eq _ _ (by simp only [List.length_append, List.length_take, List.length_cons, List.length_nil]; omega), Option.bind_some, w64_succ (by omega), show (l[p].1, l[p].2) = l[p] from rfl, ht, List.drop_append_of_le_length (by rw [List.length_take]; omega)]
          simp
        · simp only [c2, decide_false, Bool.false_eq_true, if_false, Option.bind_some, show ¬ p < i + 1 by omega]
          rw [app_eq _ _ (by simp only [List.length_take, List.length_cons, List.length_nil]; omega), Option.bind_some, w64_succ (by omega), show (l[i].1, l[i].2) = l[i] from rfl, ht])
    rw [g1]
    by_cases c1 : p < l.length
    · simp only [c1, if_true]
      rw [S.AddFact_l1, if_neg (by simp), Option.bind_some]
      simp
    · have : p = l.length := by omega
      subst this
      simp only [Nat.lt_irrefl, if_false]
      rw [S.AddFact_l1, if_neg (by simp), Option.bind_some]
      simp only [Bool.not_false, if_true, l2One_eq _ _ h2, Option.bind_some]
      rw [app_eq _ _ (by simp only [List.length_take, List.length_cons, List.length_nil]; omega)]
      simp
  · simp only [if_true]
    obtain ⟨k, s, g1, rfl⟩ := loop_inv0 (fun k (s : List Fa × Bool) i => S.AddFact_l1 l f k s.1 s.2 i) (fun i s => s = (l.take i, true)) l.length (by omega) (([] : List Fa), true) (by simp) (fun k i s hi hs => by
      subst hs
      refine ⟨_, ?_, rfl⟩
      show S.AddFact_l1 l f (k + 1) (l.take i) true i = S.AddFact_l1 l f k (l.take (i + 1)) true _
      rw [S.AddFact_l1, if_pos (by simpa using hi), idx_nat l hi]
      simp only [Bool.not_true, Bool.false_eq_true, if_false, Option.bind_some, hone i hi]
      rw [app_eq _ _ (by simp only [List.length_take, List.length_cons, List.length_nil]; omega), Option.bind_some, w64_succ (by omega), List.take_add_one, List.getElem?_eq_getElem hi]
      rfl)
    rw [g1]
    simp only
    rw [S.AddFact_l1, if_neg (by simp), Option.bind_some]
    simp

theorem shr7 (x : Int) (h0 : 0 ≤ x) (h1 : x < 2 ^ 62) : shr x 7 = w64 (x.tdiv 128) := by
  have h2 : x.tdiv 128 = x / 128 := Int.tdiv_eq_ediv_of_nonneg h0
  have h3 : shr x 7 = x / 128 := by
    unfold shr
    rw [Int.fdiv_eq_ediv_of_nonneg _ (by decide)]
    rfl
  rw [h2, h3, w64_id (by omega) (by omega)]
theorem w8_mod (x : Int) : w8 x = x % 256 := by
  unfold w8
  simp [IntKind.wrap, IntKind.bits, IntKind.signed]
theorem or128 (n : Nat) : ((BitVec.ofNat 8 n) ||| 128#8).toNat = 128 + n % 128 := by
  have h : ∀ b : BitVec 8, (b ||| 128#8).toNat = 128 + b.toNat % 128 := by decide +kernel
  rw [h]
  simp
theorem byte_same (x : Int) (h0 : 0 ≤ x) : UInt8.ofNat (Int.toNat (bor8 (w8 x) 128)) = u8 (w64 (128 + x.tmod 128)) := by
  have h2 : x.tmod 128 = x % 128 := Int.tmod_eq_emod_of_nonneg h0
  have h4 : w64 (128 + x.tmod 128) = 128 + x % 128 := by rw [h2, w64_id (by omega) (by omega)]
  have h5 : bor8 (w8 x) 128 = 128 + x % 128 := by
    unfold bor8
    rw [w8_eq, w8_mod, w8_mod]
    have e1 : BitVec.ofInt 8 (x % 256) = BitVec.ofNat 8 (x % 256).toNat := by
      rw [← BitVec.ofInt_natCast]; congr 1; omega
    have e2 : BitVec.ofInt 8 128 = 128#8 := rfl
    rw [e1, e2, or128]
    omega
  rw [h5, h4]
  unfold u8
  rw [w8_mod]
  congr 1
  omega
theorem Varint_same : ∀ (n : Nat) (x : Int) (l : List UInt8), 0 ≤ x → x < 2 ^ 62 → M.EncodeVarint_l1 n x l = S.EncodeVarint_l1 n x l
  | 0, _, _, _, _ => rfl
  | n + 1, x, l, h0, h1 => by
    rw [M.EncodeVarint_l1, S.EncodeVarint_l1, byte_same x h0]
    by_cases hc : 128 ≤ x
    · rw [if_pos (by simpa using hc), if_pos (by simpa using hc), shr7 x h0 h1]
      have h2 : x.tdiv 128 = x / 128 := Int.tdiv_eq_ediv_of_nonneg h0
      have h3 : w64 (x.tdiv 128) = x / 128 := by rw [h2, w64_id (by omega) (by omega)]
      congr 1
      funext y
      rw [h3]
      exact Varint_same n (x / 128) y (by omega) (by omega)
    · rw [if_neg (by simpa using hc), if_neg (by simpa using hc)]
/-- the bytes of a number -/
def enc (n : Nat) : List UInt8 := if h : n < 128 then [UInt8.ofNat n] else UInt8.ofNat (128 + n % 128) :: enc (n / 128)
termination_by n
decreasing_by omega
theorem u8_nat (x : Int) (h0 : 0 ≤ x) (h1 : x < 256) : u8 x = UInt8.ofNat x.toNat := by
  unfold u8; rw [w8_mod]; congr 1; omega
theorem enc_len : ∀ (b x : Nat), x < 128 ^ (b + 1) → (enc x).length ≤ b + 1 := by
  intro b
  induction b with
  | zero => intro x h; rw [enc, dif_pos (by simpa using h)]; simp
  | succ b ih =>
    intro x h
    rw [enc]
    split
    · simp
    · rw [Nat.pow_succ] at h
      generalize 128 ^ (b + 1) = P at h ih
      have := ih (x / 128) (by omega)
      simp only [List.length_cons]; omega
theorem enc_loop : ∀ (b K x : Nat) (l : List UInt8), x < 128 ^ (b + 1) → b < K → l.length + b + 1 ≤ 4294967296 → x < 2 ^ 62 → (S.EncodeVarint_l1 K x l).bind (fun (y, m) => (app m [u8 y]).bind fun x7 => some (Str.of x7)) = some (Str.of (l ++ enc x)) := by
  intro b
  induction b with
  | zero =>
    intro K x l h hK hl _
    obtain ⟨K, rfl⟩ : ∃ k, K = k + 1 := ⟨K - 1, by omega⟩
    have h' : x < 128 := by simpa using h
    rw [S.EncodeVarint_l1, if_neg (by simp; omega), Option.bind_some]
    simp only
    rw [app_eq _ _ (by simp; omega), Option.bind_some, enc, dif_pos h', u8_nat _ (by omega) (by omega)]
    simp
  | succ b ih =>
    intro K x l h hK hl hx
    obtain ⟨K, rfl⟩ : ∃ k, K = k + 1 := ⟨K - 1, by omega⟩
    rw [S.EncodeVarint_l1]
    by_cases hc : 128 ≤ x
    · have e1 : w64 ((x : Int).tdiv 128) = ((x / 128 : Nat) : Int) := by rw [Int.tdiv_eq_ediv_of_nonneg (by omega), w64_id (by omega) (by omega)]; omega
      have e2 : u8 (w64 (128 + (x : Int).tmod 128)) = UInt8.ofNat (128 + x % 128) := by
        rw [Int.tmod_eq_emod_of_nonneg (by omega), w64_id (by omega) (by omega), u8_nat _ (by omega) (by omega)]; congr 1
      rw [if_pos (by simp; omega), app_eq _ _ (by simp; omega), Option.bind_some, e1, e2]
      rw [Nat.pow_succ] at h
      have hp : x / 128 < 128 ^ (b + 1) := by generalize 128 ^ (b + 1) = P at h; omega
      rw [ih K (x / 128) _ hp (by omega) (by simp; omega) (by omega)]
      conv => rhs; rw [enc, dif_neg (by omega)]
      simp
    · rw [if_neg (by simp; omega), Option.bind_some]
      simp only
      rw [app_eq _ _ (by simp; omega), Option.bind_some, enc, dif_pos (by omega), u8_nat _ (by omega) (by omega)]
      simp
theorem EncodeVarint_S (x : Nat) (h : x < 562949953421312) : S.EncodeVarint x = some (Str.of (enc x)) := by
  unfold S.EncodeVarint
  have hr : inR (x : Int) 0 562949953421311 = true := by rw [inR_iff]; omega
  rw [inS, hr, Option.bind_some, if_neg (by simp), enc_loop 6 FUEL x [] (by simpa using h) (by rw [FUEL_eq]; omega) (by simp) (by omega)]
  rfl
theorem EncodeVarint_M (x : Nat) (h : x < 562949953421312) : M.EncodeVarint x = some (Str.of (enc x)) := by
  rw [← EncodeVarint_S x h]
  unfold M.EncodeVarint S.EncodeVarint
  rw [inS, inM, Varint_same FUEL x [] (by omega) (by omega)]
/-- the number of some bytes -/
def vv : List UInt8 → Nat
  | [] => 0
  | b :: l => b.toNat % 128 + 128 * vv l
/-- bytes that a number may have -/
def okG : Bool → List UInt8 → Bool
  | _, [] => false
  | f, [b] => decide (b.toNat < 128) && (f || decide (b.toNat ≠ 0))
  | _, b :: c :: l => decide (128 ≤ b.toNat) && okG false (c :: l)
theorem enc_ok : ∀ (k n : Nat) (f : Bool), n ≤ k → (f = true ∨ 0 < n) → okG f (enc n) = true := by
  intro k
  induction k with
  | zero => intro n f h h2; obtain rfl : n = 0 := by omega
            rcases h2 with rfl | h2
            · rw [enc, dif_pos (by omega)]; rfl
            · omega
  | succ k ih =>
    intro n f h h2
    rw [enc]
    by_cases hn : n < 128
    · rw [dif_pos hn]
      unfold okG
      have : (UInt8.ofNat n).toNat = n := by simp; omega
      rw [this]
      rcases h2 with rfl | h2
      · simp [hn]
      · have : n ≠ 0 := by omega
        simp [hn, this]
    · rw [dif_neg hn]
      have h3 := ih (n / 128) false (by omega) (by right; omega)
      have h4 : (UInt8.ofNat (128 + n % 128)).toNat = 128 + n % 128 := by simp; omega
      generalize he : enc (n / 128) = e at h3
      cases e with
      | nil => simp [okG] at h3
      | cons c l =>
        unfold okG
        rw [h4, h3]; simp
theorem ok_pos : ∀ l : List UInt8, okG false l = true → 0 < vv l
  | [], h => by simp [okG] at h
  | [b], h => by simp [okG, vv] at h ⊢; omega
  | b :: c :: l, h => by
    simp only [okG, Bool.and_eq_true] at h
    have := ok_pos (c :: l) h.2
    rw [vv]; omega
theorem ok_enc : ∀ (l : List UInt8) (f : Bool), okG f l = true → enc (vv l) = l
  | [], f, h => by simp [okG] at h
  | [b], f, h => by
    simp only [okG, Bool.and_eq_true, decide_eq_true_eq] at h
    rw [enc, dif_pos (by simp [vv]; omega)]
    have e : vv [b] = b.toNat := by simp [vv]; omega
    rw [e]; simp
  | b :: c :: l, f, h => by
    simp only [okG, Bool.and_eq_true, decide_eq_true_eq] at h
    have h1 := ok_pos _ h.2
    have h2 := ok_enc (c :: l) false h.2
    have hb := b.toNat_lt
    have e : vv (b :: c :: l) = b.toNat % 128 + 128 * vv (c :: l) := rfl
    rw [e, enc, dif_neg (by omega), show (b.toNat % 128 + 128 * vv (c :: l)) / 128 = vv (c :: l) by omega, h2, show 128 + (b.toNat % 128 + 128 * vv (c :: l)) % 128 = b.toNat by omega]
    simp
theorem enc_vv (l : List UInt8) : (enc (vv l) = l) ↔ okG true l = true :=
  ⟨fun h => h ▸ enc_ok _ _ true (Nat.le_refl _) (.inl rfl), fun h => ok_enc l true h⟩
theorem vv_lt : ∀ l : List UInt8, vv l < 128 ^ l.length
  | [] => by simp [vv]
  | b :: l => by
    have := vv_lt l
    rw [vv, List.length_cons, Nat.pow_succ]
    generalize 128 ^ l.length = P at this
    omega
theorem vv_snoc : ∀ (l : List UInt8) (b : UInt8), vv (l ++ [b]) = vv l + b.toNat % 128 * 128 ^ l.length
  | [], b => by simp [vv]
  | a :: l, b => by
    rw [List.cons_append, vv, vv_snoc l b, vv, List.length_cons, Nat.pow_succ, Nat.mul_add]
    have : 128 * (b.toNat % 128 * 128 ^ l.length) = b.toNat % 128 * (128 ^ l.length * 128) := by
      rw [Nat.mul_left_comm, Nat.mul_comm 128 (128 ^ l.length)]
    omega
/-! reading -/
theorem okG_snoc : ∀ (l : List UInt8) (b : UInt8) (f : Bool), okG f (l ++ [b]) = (l.all (fun c => decide (128 ≤ c.toNat)) && (decide (b.toNat < 128) && ((f && l.isEmpty) || decide (b.toNat ≠ 0))))
  | [], b, f => by simp [okG]
  | [x], b, f => by simp [okG]
  | x :: y :: l, b, f => by
    have := okG_snoc (y :: l) b false
    rw [List.cons_append] at this
    rw [List.cons_append, List.cons_append, okG, this]
    simp [Bool.and_assoc]
def hD (a : List UInt8) (i : Nat) : Option (Int × Int) := if okG true (a.take (i + 1)) then some (((vv (a.take (i + 1)) : Nat) : Int), ((i + 1 : Nat) : Int)) else none
def dcd (a : List UInt8) : Int × Int := ((List.range (min 7 a.length)).findSome? (hD a)).getD (0, 0)
theorem take_snoc {α : Type} (a : List α) {i : Nat} (h : i < a.length) : a.take (i + 1) = a.take i ++ [a[i]] := by rw [List.take_add_one, List.getElem?_eq_getElem h]; rfl
def eqS (x y : Str) : Bool := decide (x = y)
theorem eqS_iff' (x y : Str) : eqS x y = true ↔ x = y := by
  unfold eqS; rw [decide_eq_true_eq]
theorem eqS_iff (x y : List UInt8) : eqS x y = true ↔ x = y := eqS_iff' x y
theorem S_l2 (a : List UInt8) (k : Nat) (x3 x4 : Int) : S.DecodeVarint_l2 a (k + 1) x3 x4 = if (decide (0 ≤ x4)) then
      (idx a x4).bind fun x6 =>
      S.DecodeVarint_l2 a k (w64 ((w64 (x3 * 128)) + ((w64 (UInt8.toNat x6 : Int)).tmod 128))) (w64 (x4 - 1))
    else
      some x3 := rfl
theorem S_l1 (a : List UInt8) (k : Nat) (x1 : Int) : S.DecodeVarint_l1 a (k + 1) x1 = (if (decide (x1 ≤ 7)) then
      some (decide (x1 ≤ (List.length a : Int)))
    else
      some false).bind fun x2 =>
    if x2 then
      (S.DecodeVarint_l2 a FUEL (0 : Int) (w64 (x1 - 1))).bind fun x5 =>
      (sub a 0 x1).bind fun x7 =>
      (S.EncodeVarint x5).bind fun x8 =>
      if (eqS x8 x7) then
        some (.inr (x5, x1))
      else
        S.DecodeVarint_l1 a k (w64 (x1 + 1))
    else
      some (.inl ()) := rfl
theorem M_l1 (a : List UInt8) (k : Nat) (x1 x2 : Int) : M.DecodeVarint_l1 a (k + 1) x1 x2 = if (decide (x2 < (if (List.length a : Int) < 7 then (List.length a : Int) else 7))) then
      (idx a x2).bind fun x3 =>
      (nn (w64 (7 * x2))).bind fun _ =>
      (idx a x2).bind fun x4 =>
      if (decide (128 ≤ (UInt8.toNat x4 : Int))) then
        M.DecodeVarint_l1 a k (bor x1 (shl (w64 (band8 (UInt8.toNat x3 : Int) 127)) (w64 (7 * x2)))) (w64 (x2 + 1))
      else
        (if (decide (0 < x2)) then
          (idx a x2).bind fun x6 =>
          some (decide ((UInt8.toNat x6 : Int) = 0))
        else
          some false).bind fun x5 =>
        if x5 then
          some (.inr (0, 0))
        else
          some (.inr (bor x1 (shl (w64 (band8 (UInt8.toNat x3 : Int) 127)) (w64 (7 * x2))), w64 (x2 + 1)))
    else
      some (.inl ()) := rfl
theorem horner (a : List UInt8) : ∀ (i K x : Nat), i < a.length → i < 1000 → x * 128 ^ (i + 1) + 128 ^ (i + 1) ≤ 1125899906842624 → i + 1 < K → S.DecodeVarint_l2 a K (x : Int) (i : Int) = some ((x * 128 ^ (i + 1) + vv (a.take (i + 1)) : Nat) : Int) := by
  intro i
  induction i with
  | zero =>
    intro K x hi hi9 hx hK
    obtain ⟨K, rfl⟩ : ∃ k, K = k + 2 := ⟨K - 2, by omega⟩
    have hb := a[0].toNat_lt
    rw [S_l2, if_pos (by simp), idx_nat a hi, Option.bind_some, S_l2, w64_sm (n := ((0 : Nat) : Int) - 1) (by omega) (by omega), if_neg (by simp), w64_id (n := (x : Int) * 128) (by omega) (by omega), w64_id (n := (a[0].toNat : Int)) (by omega) (by omega), Int.tmod_eq_emod_of_nonneg (by omega), w64_id (by omega) (by omega), take_snoc a hi]
    simp [vv]
  | succ i ih =>
    intro K x hi hi9 hx hK
    obtain ⟨K, rfl⟩ : ∃ k, K = k + 1 := ⟨K - 1, by omega⟩
    have hb := a[i + 1].toNat_lt
    have hP : 128 ≤ 128 ^ (i + 1) := by rw [Nat.pow_succ]; have := Nat.pow_pos (n := i) (show 0 < 128 by omega); omega
    rw [Nat.pow_succ] at hx
    have h1 : x * 128 ≤ x * (128 ^ (i + 1) * 128) := Nat.mul_le_mul_left x (by omega)
    have e1 : w64 (w64 ((x : Int) * 128) + (w64 (a[i + 1].toNat : Int)).tmod 128) = ((x * 128 + a[i + 1].toNat % 128 : Nat) : Int) := by
      rw [w64_id (n := (x : Int) * 128) (by omega) (by omega), w64_id (n := (a[i + 1].toNat : Int)) (by omega) (by omega), Int.tmod_eq_emod_of_nonneg (by omega), w64_id (by omega) (by omega)]; omega
    have e2 : w64 (((i + 1 : Nat) : Int) - 1) = (i : Int) := by rw [w64_sm (by omega) (by omega)]; omega
    rw [S_l2, if_pos (by simp; omega), idx_nat a hi, Option.bind_some, e1, e2, take_snoc a hi, vv_snoc, List.length_take, Nat.min_eq_left (by omega), Nat.pow_succ 128 (i + 1)]
    have h2 : (x * 128 + a[i + 1].toNat % 128) * 128 ^ (i + 1) = x * (128 ^ (i + 1) * 128) + a[i + 1].toNat % 128 * 128 ^ (i + 1) := by
      rw [Nat.add_mul, Nat.mul_assoc, Nat.mul_comm 128 (128 ^ (i + 1))]
    have h3 : a[i + 1].toNat % 128 * 128 ^ (i + 1) + 128 ^ (i + 1) ≤ 128 ^ (i + 1) * 128 := by
      rw [← Nat.succ_mul, Nat.mul_comm (128 ^ (i + 1)) 128]; exact Nat.mul_le_mul_right _ (by omega)
    rw [ih K _ (by omega) (by omega) (by rw [h2]; omega) (by omega), h2]
    congr 2
    omega
theorem sum_loop {β : Type} (f : Nat → Int → Option (Sum Unit β)) (n : Nat) (h : Nat → Option β) (hn : n ≤ 4294967296) (he : ∀ k, f (k + 1) (n : Int) = some (.inl ()))
    (hs : ∀ k (i : Nat), i < n → f (k + 1) (i : Int) = (match h i with | some b => some (.inr b) | none => f k ((i + 1 : Nat) : Int))) :
    f FUEL 0 = some (match (List.range n).findSome? h with | some b => .inr b | none => .inl ()) := by
  have key : ∀ (K i : Nat), i ≤ n → n < i + K → f K (i : Int) = some (match ((List.range n).drop i).findSome? h with | some b => .inr b | none => .inl ()) := by
    intro K
    induction K with
    | zero => intro i h1 h2; omega
    | succ K ih =>
      intro i h1 h2
      by_cases hi : i < n
      · rw [hs K i hi, List.drop_eq_getElem_cons (by simpa using hi), List.findSome?_cons, List.getElem_range]
        cases h i with
        | some b => rfl
        | none => exact ih (i + 1) (by omega) (by omega)
      · obtain rfl : i = n := by omega
        have e0 : (List.range i).drop i = [] := List.drop_eq_nil_of_le (by simp)
        rw [he, e0]; rfl
  have := key FUEL 0 (by omega) (by rw [FUEL_eq]; omega)
  simpa using this
theorem vv_take_lt (a : List UInt8) {i : Nat} (h : i < 7) : vv (a.take (i + 1)) < 562949953421312 := by
  refine Nat.lt_of_lt_of_le (vv_lt _) (Nat.le_trans (Nat.pow_le_pow_right (by omega) (?_ : _ ≤ 7)) (by decide))
  rw [List.length_take]; omega
theorem DecodeVarint_S (a : List UInt8) (hl : a.length ≤ 1048576) : S.DecodeVarint a = some (dcd a) := by
  have hlo := sum_loop (fun k x => S.DecodeVarint_l1 a k (x + 1)) (min 7 a.length) (hD a) (by omega) (fun k => by
    show S.DecodeVarint_l1 a (k + 1) (((min 7 a.length : Nat) : Int) + 1) = _
    rw [S_l1]
    by_cases h7 : ((min 7 a.length : Nat) : Int) + 1 ≤ 7
    · rw [if_pos (by simpa using h7), Option.bind_some, if_neg (by simp only [decide_eq_true_eq]; show ¬ ((min 7 a.length : Nat) : Int) + 1 ≤ (a.length : Int); omega)]
    · rw [if_neg (by simpa using h7), Option.bind_some, if_neg (by simp)]) (fun k i hi => by
    have hi7 : i < 7 := by omega
    have hia : i < a.length := by omega
    have hv := vv_take_lt a hi7
    have hP : 128 ^ (i + 1) ≤ 128 ^ 7 := Nat.pow_le_pow_right (by omega) (by omega)
    show S.DecodeVarint_l1 a (k + 1) ((i : Int) + 1) = _
    have e1 : w64 ((i : Int) + 1 - 1) = (i : Int) := by rw [w64_sm (by omega) (by omega)]; omega
    have hho := horner a i FUEL 0 hia (by omega) (by rw [Nat.zero_mul]; exact Nat.le_trans (by omega) (show 128 ^ 7 ≤ 1125899906842624 by decide)) (by rw [FUEL_eq]; omega)
    rw [Nat.zero_mul, Nat.zero_add] at hho
    have hsub : sub a 0 ((i : Int) + 1) = some (a.take (i + 1)) := by
      unfold sub
      rw [if_pos ⟨by omega, by omega, by omega⟩]
      rfl
    rw [S_l1, if_pos (by simp; omega), Option.bind_some, if_pos (by simp only [decide_eq_true_eq]; show (i : Int) + 1 ≤ (a.length : Int); omega), e1]
    rw [show S.DecodeVarint_l2 a FUEL 0 (i : Int) = _ from hho, Option.bind_some, hsub, Option.bind_some, EncodeVarint_S _ hv, Option.bind_some]
    unfold hD
    by_cases hok : okG true (a.take (i + 1)) = true
    · have e2 := (enc_vv _).2 hok
      rw [if_pos hok, if_pos ((eqS_iff _ _).2 e2)]
      rfl
    · rw [if_neg hok, if_neg (fun h => hok ((enc_vv _).1 ((eqS_iff _ _).1 h)))]
      rw [w64_sm (by omega) (by omega)]
      rfl)
  have hlo' : S.DecodeVarint_l1 a FUEL 1 = _ := hlo
  show (S.DecodeVarint_l1 a FUEL 1).bind _ = _
  rw [hlo']
  unfold dcd
  cases (List.range (min 7 a.length)).findSome? (hD a) <;> rfl
theorem and127 (b : UInt8) : w64 (band8 (UInt8.toNat b : Int) 127) = ((b.toNat % 128 : Nat) : Int) := by
  have h : ∀ c : BitVec 8, (c &&& 127#8).toNat = c.toNat % 128 := by decide +kernel
  have hb := b.toNat_lt
  have e : band8 (UInt8.toNat b : Int) 127 = ((b.toNat % 128 : Nat) : Int) := by
    unfold band8
    rw [w8_eq, w8_mod]
    have e1 : BitVec.ofInt 8 (b.toNat : Int) = BitVec.ofNat 8 b.toNat := by rw [← BitVec.ofInt_natCast]
    have e2 : BitVec.ofInt 8 127 = 127#8 := rfl
    rw [e1, e2, h]
    simp only [BitVec.toNat_ofNat]
    omega
  rw [e, w64_id (by omega) (by omega)]
theorem bor_add (x y i : Nat) (hx : x < 128 ^ i) (hy : y < 128) (hi : i < 7) : bor (x : Int) (shl (y : Int) (w64 (7 * (i : Int)))) = ((x + y * 128 ^ i : Nat) : Int) := by
  have hP : 128 ^ i ≤ 128 ^ 6 := Nat.pow_le_pow_right (by omega) (by omega)
  have hP' : 128 ^ i ≤ 4398046511104 := hP
  have hm : y * 128 ^ i ≤ 127 * 128 ^ i := Nat.mul_le_mul_right _ (by omega)
  have e1 : shl (y : Int) (w64 (7 * (i : Int))) = ((y * 128 ^ i : Nat) : Int) := by
    unfold shl
    rw [w64_sm (n := 7 * (i : Int)) (by omega) (by omega), show (7 * (i : Int)).toNat = 7 * i by omega, Nat.min_eq_left (by omega)]
    have e2 : (2 : Int) ^ (7 * i) = ((128 ^ i : Nat) : Int) := by
      rw [Int.pow_mul]; simp
    rw [e2, ← Int.natCast_mul, w64_id (by omega) (by omega)]
  rw [e1]
  unfold bor
  rw [w64_eq]
  have e3 : (BitVec.ofInt 64 (x : Int) ||| BitVec.ofInt 64 ((y * 128 ^ i : Nat) : Int)).toNat = x + y * 128 ^ i := by
    rw [BitVec.ofInt_natCast, BitVec.ofInt_natCast, BitVec.toNat_or, BitVec.toNat_ofNat, BitVec.toNat_ofNat, Nat.mod_eq_of_lt (by omega), Nat.mod_eq_of_lt (by omega)]
    have e4 : (128 : Nat) ^ i = 2 ^ (7 * i) := by rw [Nat.pow_mul]
    rw [e4] at hx ⊢
    have := Nat.two_pow_add_eq_or_of_lt hx y
    rw [Nat.or_comm, Nat.mul_comm y, ← this]; omega
  rw [e3, w64_id (by omega) (by omega)]
theorem hD_snoc (a : List UInt8) {i : Nat} (h : i < a.length) : okG true (a.take (i + 1)) = ((a.take i).all (fun c => decide (128 ≤ c.toNat)) && (decide (a[i].toNat < 128) && (decide (i = 0) || decide (a[i].toNat ≠ 0)))) := by
  rw [take_snoc a h, okG_snoc]
  congr 3
  rw [Bool.true_and, Bool.eq_iff_iff, List.isEmpty_iff, decide_eq_true_eq]
  rw [List.take_eq_nil_iff]
  refine ⟨fun h => h.elim id (fun h => ?_), .inl⟩
  subst h; simp at *
theorem findSome_none {α β : Type} (l : List α) (f : α → Option β) (h : ∀ a ∈ l, f a = none) : l.findSome? f = none := by
  induction l with
  | nil => rfl
  | cons a l ih => rw [List.findSome?_cons, h a (List.mem_cons_self ..)]; exact ih (fun b hb => h b (List.mem_cons_of_mem _ hb))
theorem DecodeVarint_M (a : List UInt8) (hl : a.length ≤ 1048576) : M.DecodeVarint a = some (dcd a) := by
  have hmin : (if (List.length a : Int) < 7 then (List.length a : Int) else 7) = ((min 7 a.length : Nat) : Int) := by split <;> omega
  have key : ∀ (K i : Nat), i ≤ min 7 a.length → min 7 a.length < i + K → (a.take i).all (fun c => decide (128 ≤ c.toNat)) = true →
      (M.DecodeVarint_l1 a K ((vv (a.take i) : Nat) : Int) (i : Int)).bind (fun o => match o with | .inl () => some ((0 : Int), (0 : Int)) | .inr r => some r) = some ((((List.range (min 7 a.length)).drop i).findSome? (hD a)).getD (0, 0)) := by
    intro K
    induction K with
    | zero => intro i h1 h2; omega
    | succ K ih =>
      intro i h1 h2 h3
      rw [M_l1, hmin]
      by_cases hi : i < min 7 a.length
      · have hia : i < a.length := by omega
        have hs := hD_snoc a hia
        rw [h3, Bool.true_and] at hs
        have hP := vv_lt (a.take i)
        rw [List.length_take, Nat.min_eq_left (by omega)] at hP
        have hb := a[i].toNat_lt
        have e1 : bor ((vv (a.take i) : Nat) : Int) (shl (w64 (band8 (UInt8.toNat a[i] : Int) 127)) (w64 (7 * (i : Int)))) = ((vv (a.take (i + 1)) : Nat) : Int) := by
          rw [and127, bor_add _ _ i hP (by omega) (by omega), take_snoc a hia, vv_snoc, List.length_take, Nat.min_eq_left (by omega)]
        have e2 : nn (w64 (7 * (i : Int))) = some () := by rw [w64_sm (by omega) (by omega)]; unfold nn; rw [if_pos (by omega)]
        rw [if_pos (by simp; omega), idx_nat a hia, Option.bind_some, e2, Option.bind_some, Option.bind_some, e1, w64_succ (by omega)]
        rw [List.drop_eq_getElem_cons (by simpa using hi), List.findSome?_cons, List.getElem_range]
        unfold hD
        rw [hs]
        by_cases c1 : 128 ≤ a[i].toNat
        · rw [if_pos (by simp; omega), if_neg (by simp; omega)]
          refine ih (i + 1) (by omega) (by omega) ?_
          rw [take_snoc a hia, List.all_append, h3]
          simpa using c1
        · rw [if_neg (by simp; omega)]
          by_cases c2 : 0 < i ∧ a[i].toNat = 0
          · rw [if_pos (by simp; omega), Option.bind_some, decide_eq_true (show (a[i].toNat : Int) = 0 by omega), Option.bind_some, if_pos rfl, Option.bind_some, if_neg (by rw [decide_eq_false (show ¬ i = 0 by omega), decide_eq_false (show ¬ a[i].toNat ≠ 0 by omega)]; simp)]
            have : ((List.range (min 7 a.length)).drop (i + 1)).findSome? (hD a) = none := by
              refine findSome_none _ _ fun j hj => ?_
              obtain ⟨k, hk, rfl⟩ := List.getElem_of_mem hj
              rw [List.length_drop, List.length_range] at hk
              rw [List.getElem_drop, List.getElem_range]
              have hj : i + 1 + k < a.length := by omega
              unfold hD
              rw [hD_snoc a hj]
              have : (a.take (i + 1 + k)).all (fun c => decide (128 ≤ c.toNat)) = false := by
                rw [List.all_eq_false]
                refine ⟨a[i], ?_, by simp; omega⟩
                rw [List.mem_take_iff_getElem]
                exact ⟨i, by omega, rfl⟩
              rw [this]; rfl
            unfold hD at this
            simp only [this]
            rfl
          · have c3 : (if decide (0 < (i : Int)) = true then (some a[i]).bind fun x6 => some (decide ((UInt8.toNat x6 : Int) = 0)) else some false) = some false := by
              by_cases c4 : 0 < i
              · rw [if_pos (by simpa using c4), Option.bind_some]
                have : ¬ (a[i].toNat : Int) = 0 := by omega
                rw [decide_eq_false this]
              · rw [if_neg (by simpa using c4)]
            rw [c3, Option.bind_some, if_neg (by simp), Option.bind_some, if_pos (by simp; omega)]
            rfl
      · obtain rfl : i = min 7 a.length := by omega
        have e0 : (List.range (min 7 a.length)).drop (min 7 a.length) = [] := List.drop_eq_nil_of_le (by simp)
        rw [if_neg (by simp), e0]; rfl
  have := key FUEL 0 (by omega) (by rw [FUEL_eq]; omega) (by simp)
  rw [List.drop_zero] at this
  exact this
theorem dcd_r (a : List UInt8) : dcd a = (0, 0) ∨ ∃ n s : Nat, dcd a = ((n : Int), (s : Int)) ∧ n < 562949953421312 ∧ 1 ≤ s ∧ s ≤ 7 ∧ s ≤ a.length := by
  unfold dcd
  cases h : (List.range (min 7 a.length)).findSome? (hD a) with
  | none => exact .inl rfl
  | some r =>
    obtain ⟨i, hi, h2⟩ := List.exists_of_findSome?_eq_some h
    rw [List.mem_range] at hi
    unfold hD at h2
    split at h2
    · cases h2
      exact .inr ⟨_, _, rfl, vv_take_lt a (by omega), by omega, by omega, by omega⟩
    · cases h2

theorem chk_same (a : Str) : ∀ (n : Nat) (x i : Int), S.CheckByte_l1 a n x i = M.CheckByte_l1 a n x i := by
  intro n
  induction n with
  | zero => intro x i; rfl
  | succ n ih =>
    intro x i
    rw [S.CheckByte_l1, M.CheckByte_l1]
    simp only [ih, Int.mul_comm x 31]
theorem S_chk (a : List UInt8) (k : Nat) (x1 x2 : Int) : S.CheckByte_l1 a (k + 1) x1 x2 = if (decide (x2 < (List.length a : Int))) then
      (idx a x2).bind fun x4 =>
      S.CheckByte_l1 a k ((w64 ((w64 (x1 * 31)) + (w64 (UInt8.toNat x4 : Int)))).tmod 251) (w64 (x2 + 1))
    else
      some x1 := rfl
theorem chk_ends (a : List UInt8) (ha : a.length ≤ 1048576) : ∀ (n i : Nat) (x : Int), 0 ≤ x → x < 256 → i ≤ a.length → a.length < i + n → ∃ r : Int, S.CheckByte_l1 a n x (i : Int) = some r ∧ 0 ≤ r ∧ r < 256 := by
  intro n
  induction n with
  | zero => intro i x h0 h1 h2 h3; omega
  | succ n ih =>
    intro i x h0 h1 h2 h3
    rw [S_chk]
    by_cases hc : i < a.length
    · have hb := a[i].toNat_lt
      rw [if_pos (by simpa using hc), idx_nat a hc, Option.bind_some, w64_succ (by omega)]
      refine ih (i + 1) _ ?_ ?_ (by omega) (by omega)
      · rw [w64_id (n := x * 31) (by omega) (by omega), w64_id (n := (a[i].toNat : Int)) (by omega) (by omega), w64_id (by omega) (by omega), Int.tmod_eq_emod_of_nonneg (by omega)]
        omega
      · rw [w64_id (n := x * 31) (by omega) (by omega), w64_id (n := (a[i].toNat : Int)) (by omega) (by omega), w64_id (by omega) (by omega), Int.tmod_eq_emod_of_nonneg (by omega)]
        omega
    · rw [if_neg (by simpa using hc)]; exact ⟨_, rfl, h0, h1⟩
theorem chk_both (a : List UInt8) (ha : a.length ≤ 1048576) : ∃ r : Int, S.CheckByte a = some r ∧ M.CheckByte a = some r ∧ 0 ≤ r ∧ r < 256 := by
  obtain ⟨r, h1, h2, h3⟩ := chk_ends a ha FUEL 0 7 (by omega) (by omega) (by omega) (by rw [FUEL_eq]; omega)
  have h1' : S.CheckByte_l1 a FUEL 7 0 = some r := h1
  refine ⟨r, ?_, ?_, h2, h3⟩
  · show (S.CheckByte_l1 a FUEL 7 0).bind _ = _
    rw [h1']; rfl
  · have h4 : M.CheckByte_l1 a FUEL 7 0 = some r := (chk_same a FUEL 7 0).symm.trans h1'
    show (M.CheckByte_l1 a FUEL 7 0).bind _ = _
    rw [h4]; rfl
theorem Fixed1 (x : Int) (h0 : 0 ≤ x) (h1 : x < 256) : S.EncodeFixed x 1 = some (Str.of [u8 x]) := by
  have hx : ¬ x < 0 := by omega
  unfold S.EncodeFixed
  have hr : inR 1 1 7 = true := rfl
  rw [inS, hr]
  simp only [Option.bind_some]
  simp only [Bool.not_true, Bool.false_eq_true, if_false, Option.bind_some, hx, decide_false]
  have ef : FUEL = (FUEL - 2) + 2 := by rw [FUEL_eq]
  have h5 : x.tmod 256 = x := by rw [Int.tmod_eq_emod_of_nonneg h0]; omega
  have h6 : w64 (x.tdiv 256) = 0 := by rw [Int.tdiv_eq_ediv_of_nonneg h0, w64_id (by omega) (by omega)]; omega
  have h7 : w64 (0 + 1) = 1 := w64_id (by omega) (by omega)
  rw [ef, S.EncodeFixed_l1]
  rw [if_pos (by decide), h5, h6, h7, cat_ok _ _ (by show 1 + 0 ≤ _; omega), Option.bind_some, S.EncodeFixed_l1, if_neg (by decide)]
  rfl
def hiB (a : List UInt8) : Bool := a.all fun c => !decide ((c.toNat : Int) < 128)
theorem S_open (a : List UInt8) (h : a.length ≤ 1048576) : S.l26Open a = some (hiB a) := by
  show (S.l26Open_l1 a FUEL 0).bind _ = _
  rw [all_loop (S.l26Open_l1 a) a (fun c => !decide ((c.toNat : Int) < 128)) false (by omega) (fun k => by
    show (if decide ((a.length : Int) < (a.length : Int)) = true then _ else _) = _
    rw [if_neg (by simp)]) (fun k i hi => by
    show (if decide ((i : Int) < (a.length : Int)) = true then (idx a (i : Int)).bind _ else _) = _
    rw [if_pos (by simpa using hi), idx_nat a hi, Option.bind_some, w64_succ (by omega)]
    cases decide ((a[i].toNat : Int) < 128) <;> rfl)]
  unfold hiB
  cases a.all fun c => !decide ((c.toNat : Int) < 128) <;> rfl
theorem M_open (a : List UInt8) (h : a.length ≤ 1048576) : M.isOpenLength a = some (hiB a && decide ((a.length : Int) ≤ 3)) := by
  show (M.isOpenLength_l1 a FUEL 0).bind _ = _
  rw [all_loop (M.isOpenLength_l1 a) a (fun c => !decide ((c.toNat : Int) < 128)) false (by omega) (fun k => by
    show (if decide ((a.length : Int) < (a.length : Int)) = true then _ else _) = _
    rw [if_neg (by simp)]) (fun k i hi => by
    show (if decide ((i : Int) < (a.length : Int)) = true then (idx a (i : Int)).bind _ else _) = _
    rw [if_pos (by simpa using hi), idx_nat a hi, Option.bind_some, w64_succ (by omega)]
    cases decide ((a[i].toNat : Int) < 128) <;> rfl)]
  unfold hiB
  cases a.all fun c => !decide ((c.toNat : Int) < 128)
  · rfl
  · show some _ = _; simp
abbrev Li := List UInt8
abbrev SF := List Li × Li × Bool
def sfS (k : Nat) (a : Li) (l : List Li) : Option (Sum (List Li) SF) := S.SplitFrames_l1 k a l
def sfM (k : Nat) (a : Li) (l : List Li) : Option (Sum (Li × List Li) SF) := M.SplitFrames_l1 k a l
def decS (a : Li) : Option (Int × Int) := S.DecodeVarint a
def decM (a : Li) : Option (Int × Int) := M.DecodeVarint a
def opS (a : Li) : Option Bool := S.l26Open a
def opM (a : Li) : Option Bool := M.isOpenLength a
def chS (a : Li) : Option Int := S.CheckByte a
def chM (a : Li) : Option Int := M.CheckByte a
def fixL (x n : Int) : Option Li := S.EncodeFixed x n
def catL (a b : Li) : Option Li := cat a b
def eqL (a b : Li) : Bool := eqS a b
theorem eqL_iff (x y : Li) : eqL x y = true ↔ x = y := eqS_iff x y
theorem catL_eq (a b : Li) (h : a.length + b.length ≤ 4294967296) : catL a b = some (a ++ b) := cat_ok a b h
theorem S_sf (a : Li) (k : Nat) (l : List Li) : sfS (k + 1) a l = if (decide (0 < (List.length a : Int))) then
      (decS a).bind fun x4 =>
      if (decide (x4.2 = 0)) then
        (if (decide ((List.length a : Int) < 4)) then
          (opS a).bind fun x6 =>
          some x6
        else
          some false).bind fun x5 =>
        if x5 then
          some (.inr (l, a, true))
        else
          some (.inr (l, a, false))
      else
        if (decide (200 < x4.1)) then
          some (.inr (l, a, false))
        else
          if (decide ((List.length a : Int) < (w64 ((w64 (x4.2 + x4.1)) + 1)))) then
            some (.inr (l, a, true))
          else
            (sub a x4.2 (w64 (x4.2 + x4.1))).bind fun x7 =>
            (sub a x4.2 (w64 ((w64 (x4.2 + x4.1)) + 1))).bind fun x8 =>
            (chS x7).bind fun x9 =>
            (fixL x9 1).bind fun x10 =>
            (catL x7 x10).bind fun x11 =>
            if (!eqL x8 x11) then
              some (.inr (l, a, false))
            else
              (app l ([x7])).bind fun x12 =>
              (sub a (w64 ((w64 (x4.2 + x4.1)) + 1)) (List.length a : Int)).bind fun x13 =>
              sfS k x13 x12
    else
      some (.inl l) := rfl
theorem M_sf (a : Li) (k : Nat) (l : List Li) : sfM (k + 1) a l = if (!eqL a []) then
      (decM a).bind fun x5 =>
      if (decide (x5.2 = 0)) then
        (opM a).bind fun x6 =>
        some (.inr (l, a, x6))
      else
        if (decide (200 < x5.1)) then
          some (.inr (l, a, false))
        else
          if (decide ((List.length a : Int) < (w64 ((w64 (x5.2 + x5.1)) + 1)))) then
            some (.inr (l, a, true))
          else
            (sub a x5.2 (w64 (x5.2 + x5.1))).bind fun x7 =>
            (idx a (w64 (x5.2 + x5.1))).bind fun x8 =>
            (chM x7).bind fun x9 =>
            if (!decide ((w64 (UInt8.toNat x8 : Int)) = x9)) then
              some (.inr (l, a, false))
            else
              (app l ([x7])).bind fun x10 =>
              (sub a (w64 ((w64 (x5.2 + x5.1)) + 1)) (List.length a : Int)).bind fun x11 =>
              sfM k x11 x10
    else
      some (.inl (a, l)) := rfl
def fS (o : Sum (List Li) SF) : Option SF := match o with
  | .inl x3 => some (x3, [], true)
  | .inr r => some r
def fM (o : Sum (Li × List Li) SF) : Option SF := match o with
  | .inl (x3, x4) => some (x4, x3, true)
  | .inr r => some r
theorem sub_nat {α : Type} (a : List α) (i j : Nat) (h : i ≤ j) (h2 : j ≤ a.length) : sub a (i : Int) (j : Int) = some ((a.take j).drop i) := by
  unfold sub; rw [if_pos ⟨by omega, by omega, by omega⟩]; simp

def chk (a : Li) : Int := (chS a).getD 0
theorem chk_eq (a : Li) (h : a.length ≤ 1048576) : chS a = some (chk a) ∧ chM a = some (chk a) ∧ 0 ≤ chk a ∧ chk a < 256 := by
  obtain ⟨r, h1, h2, h3, h4⟩ := chk_both a h
  have e : chS a = some r := h1
  have : chk a = r := by unfold chk; rw [e]; rfl
  rw [this]
  exact ⟨h1, h2, h3, h4⟩
/-- the frame that a text begins with, and what is behind it -/
def frm (a : Li) : Option (Li × Li) :=
  let n := (dcd a).1.toNat; let s := (dcd a).2.toNat
  if s ≠ 0 ∧ n ≤ 200 ∧ s + n + 1 ≤ a.length ∧ u8 (chk ((a.take (s + n)).drop s)) = a.getD (s + n) 0 then some ((a.take (s + n)).drop s, a.drop (s + n + 1)) else none
/-- what is left may be the beginning of a frame -/
def okEnd (a : Li) : Bool :=
  let n := (dcd a).1.toNat; let s := (dcd a).2.toNat
  if s = 0 then hiB a && decide (a.length ≤ 3) else decide (n ≤ 200) && decide (a.length < s + n + 1)
def spl : Nat → Li → SF
  | 0, a => ([], a, false)
  | k + 1, a => match frm a with
    | some (b, r) => (b :: (spl k r).1, (spl k r).2.1, (spl k r).2.2)
    | none => ([], a, okEnd a)
theorem frm_len {a b r : Li} (h : frm a = some (b, r)) : r.length < a.length ∧ b.length + r.length < a.length := by
  unfold frm at h
  simp only at h
  split at h
  · rename_i hc
    obtain ⟨h1, h2, h3, h4⟩ := hc
    cases h
    simp only [List.length_drop, List.length_take]
    omega
  · cases h
theorem spl_fuel : ∀ (m K K' : Nat) (a : Li), a.length ≤ m → a.length < K → a.length < K' → spl K a = spl K' a := by
  intro m
  induction m with
  | zero =>
    intro K K' a h h1 h2
    obtain ⟨K, rfl⟩ : ∃ k, K = k + 1 := ⟨K - 1, by omega⟩
    obtain ⟨K', rfl⟩ : ∃ k, K' = k + 1 := ⟨K' - 1, by omega⟩
    unfold spl
    cases hf : frm a with
    | none => rfl
    | some br => obtain ⟨b, r⟩ := br; have := (frm_len hf).1; omega
  | succ m ih =>
    intro K K' a h h1 h2
    obtain ⟨K, rfl⟩ : ∃ k, K = k + 1 := ⟨K - 1, by omega⟩
    obtain ⟨K', rfl⟩ : ∃ k, K' = k + 1 := ⟨K' - 1, by omega⟩
    unfold spl
    cases hf : frm a with
    | none => rfl
    | some br =>
      obtain ⟨b, r⟩ := br
      have := (frm_len hf).1
      simp only [ih K K' r (by omega) (by omega) (by omega)]
theorem split_eq : ∀ (K : Nat) (a : Li) (l : List Li), a.length < K → a.length + l.length ≤ 1048576 → (sfS K a l).bind fS = some (l ++ (spl K a).1, (spl K a).2.1, (spl K a).2.2) ∧ (sfM K a l).bind fM = some (l ++ (spl K a).1, (spl K a).2.1, (spl K a).2.2) := by
  intro K
  induction K with
  | zero => intro a l h; omega
  | succ K ih =>
    intro a l hK hn
    rw [S_sf, M_sf]
    by_cases h0 : a = []
    · subst h0
      have hd : dcd ([] : Li) = (0, 0) := rfl
      have hf : frm ([] : Li) = none := by unfold frm; rw [hd]; rfl
      have hs : spl (K + 1) ([] : Li) = ([], [], true) := by
        unfold spl; rw [hf]; unfold okEnd; rw [hd]; rfl
      rw [if_neg (by simp), (eqL_iff [] []).2 rfl, if_neg (by simp), hs]
      simp [fS, fM]
    · have hpos : 0 < a.length := List.length_pos_iff.2 h0
      have e0 : eqL a [] = false := by
        rw [Bool.eq_false_iff]; intro h; exact h0 ((eqL_iff a []).1 h)
      have hdS : decS a = some (dcd a) := DecodeVarint_S a (by omega)
      have hdM : decM a = some (dcd a) := DecodeVarint_M a (by omega)
      rw [if_pos (by simpa using hpos), e0, Bool.not_false, if_pos rfl, hdS, hdM, Option.bind_some, Option.bind_some]
      rcases dcd_r a with hd | ⟨n, s, hd, h1, h2, h3, h4⟩
      · have hoS : opS a = some (hiB a) := S_open a (by omega)
        have hoM : opM a = some (hiB a && decide ((a.length : Int) ≤ 3)) := M_open a (by omega)
        have hs : spl (K + 1) a = ([], a, hiB a && decide (a.length ≤ 3)) := by
          unfold spl frm okEnd; rw [hd]; rfl
        rw [hs, hd]
        dsimp only
        rw [decide_eq_true (show (0 : Int) = 0 from rfl), if_pos rfl, if_pos rfl, hoS, hoM]
        by_cases h3 : a.length ≤ 3
        · rw [decide_eq_true h3, Bool.and_true, decide_eq_true (show (a.length : Int) < 4 by omega), if_pos rfl, decide_eq_true (show (a.length : Int) ≤ 3 by omega)]
          cases hiB a <;> simp [fS, fM]
        · rw [decide_eq_false h3, Bool.and_false, decide_eq_false (show ¬ (a.length : Int) < 4 by omega), if_neg Bool.false_ne_true, decide_eq_false (show ¬ (a.length : Int) ≤ 3 by omega)]
          simp [fS, fM]
      · have hn' : ((n : Int)).toNat = n := by omega
        have hs' : ((s : Int)).toNat = s := by omega
        have hsne : s ≠ 0 := by omega
        rw [hd]
        dsimp only
        rw [decide_eq_false (show ¬ (s : Int) = 0 by omega), if_neg Bool.false_ne_true, if_neg Bool.false_ne_true]
        by_cases c1 : 200 < (n : Int)
        · have hs : spl (K + 1) a = ([], a, false) := by
            unfold spl frm okEnd; rw [hd]; simp only [hn', hs']
            rw [if_neg (by omega), if_neg hsne, decide_eq_false (show ¬ n ≤ 200 by omega)]; rfl
          rw [hs, decide_eq_true c1, if_pos rfl, if_pos rfl]
          simp [fS, fM]
        · rw [decide_eq_false c1, if_neg Bool.false_ne_true, if_neg Bool.false_ne_true]
          have e1 : w64 ((s : Int) + (n : Int)) = ((s + n : Nat) : Int) := by rw [w64_sm (by omega) (by omega)]; omega
          have e2 : w64 (((s + n : Nat) : Int) + 1) = ((s + n + 1 : Nat) : Int) := w64_succ (by omega)
          rw [e1, e2]
          by_cases c2 : (a.length : Int) < ((s + n + 1 : Nat) : Int)
          · have hs : spl (K + 1) a = ([], a, true) := by
              unfold spl frm okEnd; rw [hd]; simp only [hn', hs']
              rw [if_neg (by omega), if_neg hsne, decide_eq_true (show n ≤ 200 by omega), decide_eq_true (show a.length < s + n + 1 by omega)]; rfl
            rw [hs, decide_eq_true c2, if_pos rfl, if_pos rfl]
            simp [fS, fM]
          · rw [decide_eq_false c2, if_neg Bool.false_ne_true, if_neg Bool.false_ne_true]
            have hlt : s + n < a.length := by omega
            rw [sub_nat a s (s + n) (by omega) (by omega), sub_nat a s (s + n + 1) (by omega) (by omega), idx_nat a hlt, sub_nat a (s + n + 1) a.length (by omega) (by omega)]
            simp only [Option.bind_some]
            generalize hbd : (a.take (s + n)).drop s = body
            have hbl : body.length ≤ 1048576 := by rw [← hbd, List.length_drop, List.length_take]; omega
            obtain ⟨k1', k2', k3, k4⟩ := chk_eq body hbl
            have k5 : fixL (chk body) 1 = some [u8 (chk body)] := Fixed1 (chk body) k3 k4
            rw [k1', k2', Option.bind_some, Option.bind_some, k5, Option.bind_some]
            have hb8 : (a.take (s + n + 1)).drop s = body ++ [a[s + n]] := by
              rw [take_snoc a hlt, List.drop_append_of_le_length (by rw [List.length_take]; omega), hbd]
            rw [catL_eq _ _ (by simp; omega), Option.bind_some, hb8]
            have hlt8 := a[s + n].toNat_lt
            have hu : (w64 (a[s + n].toNat : Int) = chk body) ↔ u8 (chk body) = a[s + n] := by
              rw [w64_id (by omega) (by omega), u8_nat _ k3 k4]
              refine ⟨fun h => ?_, fun h => ?_⟩
              · rw [← h]; simp
              · rw [← h]; simp; omega
            have hcc : eqL (body ++ [a[s + n]]) (body ++ [u8 (chk body)]) = decide (w64 (a[s + n].toNat : Int) = chk body) := by
              rw [Bool.eq_iff_iff, eqL_iff, decide_eq_true_eq, hu]
              simp only [List.append_cancel_left_eq, List.cons.injEq, and_true]
              exact ⟨fun h => h.symm, fun h => h.symm⟩
            have hgd : a.getD (s + n) 0 = a[s + n] := by simp [hlt]
            rw [hcc]
            by_cases c3 : w64 (a[s + n].toNat : Int) = chk body
            · have hf : frm a = some (body, a.drop (s + n + 1)) := by
                unfold frm; rw [hd]; simp only [hn', hs', hbd, hgd]
                rw [if_pos ⟨hsne, by omega, by omega, hu.1 c3⟩]
              have hs : spl (K + 1) a = (body :: (spl K (a.drop (s + n + 1))).1, (spl K (a.drop (s + n + 1))).2.1, (spl K (a.drop (s + n + 1))).2.2) := by
                conv => lhs; unfold spl
                rw [hf]
              have hdr : (a.take a.length).drop (s + n + 1) = a.drop (s + n + 1) := by rw [List.take_length]
              rw [decide_eq_true c3, Bool.not_true, if_neg Bool.false_ne_true, if_neg Bool.false_ne_true, app_eq _ _ (by simp; omega), Option.bind_some, Option.bind_some, hdr, hs]
              have := ih (a.drop (s + n + 1)) (l ++ [body]) (by rw [List.length_drop]; omega) (by rw [List.length_drop, List.length_append]; simp only [List.length_cons, List.length_nil]; omega)
              simpa using this
            · have hf : frm a = none := by
                unfold frm; rw [hd]; simp only [hn', hs', hbd, hgd]
                rw [if_neg (fun h => c3 (hu.2 h.2.2.2))]
              have hs : spl (K + 1) a = ([], a, false) := by
                unfold spl; rw [hf]; unfold okEnd; rw [hd]; simp only [hn', hs']
                rw [if_neg hsne, decide_eq_false (show ¬ a.length < s + n + 1 by omega)]; simp
              rw [hs, decide_eq_false c3, Bool.not_false, if_pos rfl, if_pos rfl]
              simp [fS, fM]
/-! pieces -/
theorem hiB_prefix {p q : Li} (h : hiB (p ++ q) = true) : hiB p = true := by
  unfold hiB at h ⊢
  rw [List.all_append, Bool.and_eq_true] at h
  exact h.1
theorem dcd_find (a : Li) {i : Nat} (hi : i < min 7 a.length) (h : okG true (a.take (i + 1)) = true) (hno : ∀ j, j < i → okG true (a.take (j + 1)) = false) : dcd a = (((vv (a.take (i + 1)) : Nat) : Int), ((i + 1 : Nat) : Int)) := by
  unfold dcd
  have : (List.range (min 7 a.length)).findSome? (hD a) = some (((vv (a.take (i + 1)) : Nat) : Int), ((i + 1 : Nat) : Int)) := by
    have hsplit : List.range (min 7 a.length) = List.range i ++ (i :: (List.range (min 7 a.length)).drop (i + 1)) := by
      conv => lhs; rw [← List.take_append_drop i (List.range (min 7 a.length))]
      rw [List.take_range, Nat.min_eq_left (by omega), List.drop_eq_getElem_cons (by simpa using hi), List.getElem_range]
    rw [hsplit, List.findSome?_append, findSome_none _ _ (fun j hj => by
      unfold hD; rw [hno j (List.mem_range.1 hj)]; rfl), Option.none_or, List.findSome?_cons]
    unfold hD
    rw [if_pos h]
  rw [this]; rfl
theorem dcd_none (a : Li) (hno : ∀ j, j < min 7 a.length → okG true (a.take (j + 1)) = false) : dcd a = (0, 0) := by
  unfold dcd
  rw [findSome_none _ _ (fun j hj => by unfold hD; rw [hno j (List.mem_range.1 hj)]; rfl)]; rfl
/-- how a number that is read stands -/
theorem dcd_at {a : Li} {n s : Nat} (h : dcd a = ((n : Int), (s : Int))) (hs : 1 ≤ s) : s ≤ min 7 a.length ∧ n = vv (a.take s) ∧ okG true (a.take s) = true ∧ ∀ j, j < s - 1 → okG true (a.take (j + 1)) = false := by
  unfold dcd at h
  cases hf : (List.range (min 7 a.length)).findSome? (hD a) with
  | none => rw [hf] at h; simp at h; omega
  | some r =>
    rw [hf] at h
    obtain ⟨l1, i, l2, e1, e2, e3⟩ := List.findSome?_eq_some_iff.1 hf
    have hmem : i ∈ List.range (min 7 a.length) := by rw [e1]; simp
    have hi := List.mem_range.1 hmem
    have hl1 : l1 = List.range i := by
      have hlen : l1.length = i := by
        have := congrArg (fun l => l[l1.length]?) e1
        simp only [List.getElem?_append_right (Nat.le_refl _), Nat.sub_self, List.getElem?_cons_zero] at this
        rw [List.getElem?_range (by
          by_cases hc : l1.length < min 7 a.length
          · exact hc
          · rw [List.getElem?_eq_none (by simpa using hc)] at this; cases this)] at this
        exact Option.some.inj this
      have := congrArg (fun l => l.take l1.length) e1
      simp only [List.take_left'] at this
      rw [List.take_range, hlen, Nat.min_eq_left (by omega)] at this
      simpa using this.symm
    unfold hD at e2
    split at e2
    · rename_i hok
      cases e2
      simp only [Option.getD_some, Prod.mk.injEq] at h
      obtain ⟨h1, h2⟩ := h
      obtain rfl : s = i + 1 := by omega
      refine ⟨by omega, by omega, hok, fun j hj => ?_⟩
      have := e3 j (by rw [hl1]; exact List.mem_range.2 (by omega))
      unfold hD at this
      split at this
      · cases this
      · exact Bool.eq_false_iff.2 (by assumption)
    · cases e2
theorem enc_len2 {n : Nat} (h : n ≤ 200) : (enc n).length ≤ 2 := enc_len 1 n (by simp; omega)
theorem dcd_prefix {p q : Li} {n s : Nat} (h : dcd (p ++ q) = ((n : Int), (s : Int))) (hs : 1 ≤ s) (hn : n ≤ 200) :
    (s ≤ p.length ∧ dcd p = ((n : Int), (s : Int))) ∨ (p.length < s ∧ dcd p = (0, 0) ∧ hiB p = true ∧ p.length ≤ 3) := by
  obtain ⟨h1, h2, h3, h4⟩ := dcd_at h hs
  by_cases hc : s ≤ p.length
  · left
    have e : ∀ j, j < s → (p ++ q).take (j + 1) = p.take (j + 1) := fun j hj => List.take_append_of_le_length (by omega)
    have es : (p ++ q).take s = p.take s := List.take_append_of_le_length hc
    refine ⟨hc, ?_⟩
    have := dcd_find p (i := s - 1) (by omega) (by rw [show s - 1 + 1 = s by omega, ← es]; exact h3) (fun j hj => by rw [← e j (by omega)]; exact h4 j (by omega))
    rw [show s - 1 + 1 = s by omega, ← es, ← h2] at this
    exact this
  · right
    have hlen : s ≤ 2 := by
      have h5 := (enc_vv _).2 h3
      rw [← h2] at h5
      have h6 := enc_len2 hn
      rw [h5, List.length_take] at h6
      omega
    have hall : ((p ++ q).take (s - 1)).all (fun c => decide (128 ≤ c.toNat)) = true := by
      have := hD_snoc (p ++ q) (i := s - 1) (by omega)
      rw [show s - 1 + 1 = s by omega, h3] at this
      have := this.symm
      rw [Bool.and_eq_true] at this
      exact this.1
    refine ⟨by omega, dcd_none p (fun j hj => ?_), ?_, by omega⟩
    · have := h4 j (by omega)
      rwa [List.take_append_of_le_length (by omega)] at this
    · unfold hiB
      rw [List.all_eq_true] at hall ⊢
      intro c hcm
      have hmem : c ∈ (p ++ q).take (s - 1) := by
        rw [List.take_append]
        exact List.mem_append_left _ (by rw [List.take_of_length_le (by omega)]; exact hcm)
      have := hall c hmem
      simp at this ⊢
      omega
theorem dcd_hi {p : Li} (h : hiB p = true) : dcd p = (0, 0) := by
  refine dcd_none p (fun j hj => ?_)
  rw [hD_snoc p (i := j) (by omega)]
  have : ¬ (p[j]'(by omega)).toNat < 128 := by
    unfold hiB at h
    rw [List.all_eq_true] at h
    have := h _ (List.getElem_mem (show j < p.length by omega))
    simp at this
    omega
  rw [decide_eq_false this]
  simp
theorem end_prefix {p q : Li} (hf : frm (p ++ q) = none) (ho : okEnd (p ++ q) = true) : frm p = none ∧ okEnd p = true := by
  rcases dcd_r (p ++ q) with hd | ⟨n, s, hd, h1, h2, h3, h4⟩
  · unfold okEnd at ho
    rw [hd] at ho
    simp only [Int.toNat_zero, if_true, Bool.and_eq_true, decide_eq_true_eq, List.length_append] at ho
    have h5 := hiB_prefix ho.1
    have h6 := dcd_hi h5
    unfold frm okEnd
    rw [h6, h5]
    simp; omega
  · unfold okEnd at ho
    rw [hd] at ho
    simp only [Int.toNat_natCast] at ho
    rw [if_neg (by omega), Bool.and_eq_true, decide_eq_true_eq, decide_eq_true_eq, List.length_append] at ho
    rcases dcd_prefix hd h2 ho.1 with ⟨g1, g2⟩ | ⟨g1, g2, g3, g4⟩
    · unfold frm okEnd
      rw [g2]
      simp only [Int.toNat_natCast]
      rw [if_neg (by omega), if_neg (by omega), decide_eq_true ho.1, decide_eq_true (show p.length < s + n + 1 by omega)]
      exact ⟨rfl, rfl⟩
    · unfold frm okEnd
      rw [g2, g3]
      simp; omega
theorem frm_prefix {p q b r : Li} (hf : frm (p ++ q) = some (b, r)) : (∃ p', frm p = some (b, p') ∧ r = p' ++ q) ∨ (frm p = none ∧ okEnd p = true) := by
  rcases dcd_r (p ++ q) with hd | ⟨n, s, hd, h1, h2, h3, h4⟩
  · unfold frm at hf
    rw [hd] at hf
    simp at hf
  · unfold frm at hf
    rw [hd] at hf
    simp only [Int.toNat_natCast] at hf
    split at hf
    · rename_i hc
      obtain ⟨k1, k2, k3, k4⟩ := hc
      rcases dcd_prefix hd h2 k2 with ⟨g1, g2⟩ | ⟨g1, g2, g3, g4⟩
      · by_cases hl : s + n + 1 ≤ p.length
        · left
          have e1 : (p ++ q).take (s + n) = p.take (s + n) := List.take_append_of_le_length (by omega)
          have e2 : (p ++ q).drop (s + n + 1) = p.drop (s + n + 1) ++ q := List.drop_append_of_le_length hl
          have e3 : (p ++ q).getD (s + n) 0 = p.getD (s + n) 0 := by
            rw [List.getD_eq_getElem?_getD, List.getD_eq_getElem?_getD, List.getElem?_append_left (by omega)]
          rw [e1, e3] at k4
          cases hf
          refine ⟨p.drop (s + n + 1), ?_, e2⟩
          unfold frm
          rw [g2]
          simp only [Int.toNat_natCast]
          rw [if_pos ⟨k1, k2, hl, k4⟩, e1]
        · right
          unfold frm okEnd
          rw [g2]
          simp only [Int.toNat_natCast]
          rw [if_neg (by omega), if_neg (by omega), decide_eq_true k2, decide_eq_true (show p.length < s + n + 1 by omega)]
          exact ⟨rfl, rfl⟩
      · right
        unfold frm okEnd
        rw [g2, g3]
        simp; omega
    · cases hf
theorem spl_rest_len : ∀ (K : Nat) (a : Li), (spl K a).2.1.length ≤ a.length ∧ (spl K a).1.length ≤ a.length := by
  intro K
  induction K with
  | zero => intro a; unfold spl; simp
  | succ K ih =>
    intro a
    unfold spl
    cases hf : frm a with
    | none => simp
    | some br =>
      obtain ⟨b, r⟩ := br
      have := frm_len hf
      obtain ⟨i1, i2⟩ := ih r
      simp only [List.length_cons]
      omega
/-- frames are found in whatever pieces they come -/
theorem pieces : ∀ (K : Nat) (p q : Li), (p ++ q).length < K → (spl K (p ++ q)).2.2 = true →
    (spl K p).2.2 = true ∧ ∃ l, spl K ((spl K p).2.1 ++ q) = (l, (spl K (p ++ q)).2.1, true) ∧ (spl K (p ++ q)).1 = (spl K p).1 ++ l := by
  intro K
  induction K with
  | zero => intro p q h; omega
  | succ K ih =>
    intro p q hK ht
    have hone : frm p = none → okEnd p = true → (spl (K + 1) p).2.2 = true ∧ ∃ l, spl (K + 1) ((spl (K + 1) p).2.1 ++ q) = (l, (spl (K + 1) (p ++ q)).2.1, true) ∧ (spl (K + 1) (p ++ q)).1 = (spl (K + 1) p).1 ++ l := by
      intro h1 h2
      have e : spl (K + 1) p = ([], p, true) := by unfold spl; rw [h1, h2]
      rw [e]
      refine ⟨rfl, (spl (K + 1) (p ++ q)).1, ?_, by simp⟩
      simp only
      rw [← ht]
    cases hf : frm (p ++ q) with
    | none =>
      have e : spl (K + 1) (p ++ q) = ([], p ++ q, okEnd (p ++ q)) := by
        conv => lhs; unfold spl
        rw [hf]
      rw [e] at ht
      obtain ⟨h1, h2⟩ := end_prefix hf ht
      exact hone h1 h2
    | some br =>
      obtain ⟨b, r⟩ := br
      rcases frm_prefix hf with ⟨p', h1, rfl⟩ | ⟨h1, h2⟩
      · have e1 : spl (K + 1) (p ++ q) = (b :: (spl K (p' ++ q)).1, (spl K (p' ++ q)).2.1, (spl K (p' ++ q)).2.2) := by
          conv => lhs; unfold spl
          rw [hf]
        have e2 : spl (K + 1) p = (b :: (spl K p').1, (spl K p').2.1, (spl K p').2.2) := by
          conv => lhs; unfold spl
          rw [h1]
        have hl := (frm_len hf).1
        rw [e1] at ht
        obtain ⟨i1, l, i2, i3⟩ := ih p' q (by omega) ht
        rw [e1, e2]
        refine ⟨i1, l, ?_, by simp only [i3, List.cons_append]⟩
        simp only
        have hr := (spl_rest_len K p').1
        rw [List.length_append] at hl hK
        rw [List.length_append] at hl
        rw [spl_fuel ((spl K p').2.1 ++ q).length (K + 1) K _ (Nat.le_refl _) (by rw [List.length_append]; omega) (by rw [List.length_append]; omega)]
        exact i2
      · exact hone h1 h2
/-- a frame that is made is found -/
theorem spl_made (t : Li) (h : t.length ≤ 200) (K : Nat) (hK : (enc t.length ++ t ++ [u8 (chk t)]).length < K) : spl K (enc t.length ++ t ++ [u8 (chk t)]) = ([t], [], true) := by
  have hok := enc_ok t.length t.length true (Nat.le_refl _) (.inl rfl)
  have hvv : vv (enc t.length) = t.length := by
    have : ∀ (k n : Nat), n ≤ k → vv (enc n) = n := by
      intro k
      induction k with
      | zero => intro n h; obtain rfl : n = 0 := by omega
                rw [enc, dif_pos (by omega)]; simp [vv]
      | succ k ih =>
        intro n h
        rw [enc]
        by_cases hn : n < 128
        · rw [dif_pos hn]; simp [vv]; omega
        · rw [dif_neg hn, vv, ih (n / 128) (by omega)]
          simp; omega
    exact this _ _ (Nat.le_refl _)
  have hel := enc_len2 h
  have hep : 1 ≤ (enc t.length).length := by rw [enc]; split <;> simp
  generalize he : enc t.length = e at hok hvv hel hep hK
  have hno : ∀ j, j < e.length - 1 → okG true ((e ++ t ++ [u8 (chk t)]).take (j + 1)) = false := by
    intro j hj
    rw [List.append_assoc, List.take_append_of_le_length (by omega), hD_snoc e (i := j) (by omega)]
    have h5 := hD_snoc e (i := e.length - 1) (by omega)
    rw [show e.length - 1 + 1 = e.length by omega, List.take_length, hok] at h5
    have h6 := h5.symm
    rw [Bool.and_eq_true, List.all_eq_true] at h6
    have h7 := h6.1 e[j] (by rw [List.mem_take_iff_getElem]; exact ⟨j, by omega, rfl⟩)
    simp at h7
    rw [decide_eq_false (show ¬ e[j].toNat < 128 by omega)]
    simp
  have hd : dcd (e ++ t ++ [u8 (chk t)]) = ((t.length : Int), (e.length : Int)) := by
    have e1 : (e ++ t ++ [u8 (chk t)]).take e.length = e := by rw [List.append_assoc, List.take_left']; rfl
    have := dcd_find (e ++ t ++ [u8 (chk t)]) (i := e.length - 1) (by simp only [List.length_append]; omega) (by rw [show e.length - 1 + 1 = e.length by omega, e1]; exact hok) hno
    rw [show e.length - 1 + 1 = e.length by omega, e1, hvv] at this
    exact this
  have hbody : ((e ++ t ++ [u8 (chk t)]).take (e.length + t.length)).drop e.length = t := by
    rw [List.take_left' (by simp), List.drop_left' rfl]
  have hf : frm (e ++ t ++ [u8 (chk t)]) = some (t, []) := by
    unfold frm
    rw [hd]
    simp only [Int.toNat_natCast, hbody]
    rw [if_pos ⟨by omega, h, by simp only [List.length_append, List.length_cons, List.length_nil]; omega, by
      rw [List.getD_eq_getElem?_getD, List.getElem?_append_right (by simp)]; simp⟩]
    congr 2
    exact List.drop_eq_nil_of_le (by simp only [List.length_append, List.length_cons, List.length_nil]; omega)
  obtain ⟨K, rfl⟩ : ∃ k, K = k + 1 := ⟨K - 1, by omega⟩
  unfold spl
  rw [hf]
  have hnil : spl K ([] : Li) = ([], [], true) ∨ K = 0 := by
    cases K with
    | zero => right; rfl
    | succ K =>
      left
      unfold spl
      have hd0 : dcd ([] : Li) = (0, 0) := rfl
      have hf0 : frm ([] : Li) = none := by unfold frm; rw [hd0]; rfl
      rw [hf0]; unfold okEnd; rw [hd0]; rfl
  rcases hnil with hnil | rfl
  · simp only [hnil]
  · simp at hK

abbrev Code := List UInt8
theorem band255 (x : Int) : 0 ≤ band x 255 ∧ band x 255 ≤ 255 := by
  unfold band
  rw [w64_eq]
  have h : (BitVec.ofInt 64 x &&& BitVec.ofInt 64 255).toNat ≤ 255 := by
    rw [BitVec.toNat_and]; exact Nat.and_le_right
  rw [w64_id (by omega) (by omega)]
  omega
/-- a place in the code -/
def Pos (a : Code) (p : Int) : Prop := 0 ≤ p ∧ p ≤ (a.length : Int)
theorem byte_ok (a : Code) (p s : Int) (ha : a.length ≤ 1048576) (hp : Pos a p) : ∃ v q t, S.l1Byte (a, p, s) = some (v, (a, q, t)) ∧ 0 ≤ v ∧ v ≤ 255 ∧ Pos a q := by
  unfold S.l1Byte
  obtain ⟨h0, h1⟩ := hp
  by_cases h : p < (a.length : Int)
  · obtain ⟨i, rfl⟩ : ∃ i : Nat, p = i := ⟨p.toNat, by omega⟩
    have hi : i < a.length := by omega
    rw [if_pos (by simpa using hi), idx_nat a hi, Option.bind_some, Option.bind_some]
    exact ⟨_, _, _, rfl, (band255 _).1, (band255 _).2, by rw [w64_succ (by omega)]; exact ⟨by omega, by omega⟩⟩
  · rw [if_neg (by simpa using h), Option.bind_some]
    exact ⟨_, _, _, rfl, (band255 _).1, (band255 _).2, h0, h1⟩
theorem below_ok (a : Code) (p s n : Int) (ha : a.length ≤ 1048576) (hp : Pos a p) (h0 : 0 < n) (h1 : n ≤ 256) : ∃ v q t, S.l1Below (a, p, s) n = some (v, (a, q, t)) ∧ 0 ≤ v ∧ v < n ∧ Pos a q := by
  obtain ⟨v, q, t, e, v0, v1, hq⟩ := byte_ok a p s ha hp
  unfold S.l1Below
  have hz : nz n = some () := by unfold nz; rw [if_neg (by omega)]
  rw [if_neg (by simp; omega), if_pos (by simpa using h1), e, Option.bind_some, hz, Option.bind_some]
  refine ⟨_, _, _, rfl, ?_, ?_, hq⟩
  · rw [Int.tmod_eq_emod_of_nonneg v0]; exact Int.emod_nonneg _ (by omega)
  · rw [Int.tmod_eq_emod_of_nonneg v0]; exact Int.emod_lt_of_pos _ h0
theorem pick_ok (a : Code) (p s : Int) (l : List Int) (ha : a.length ≤ 1048576) (hp : Pos a p) (h0 : 0 < l.length) (h1 : l.length ≤ 256) : ∃ v q t, S.l1PickInt (a, p, s) l = some (v, (a, q, t)) ∧ v ∈ l ∧ Pos a q := by
  obtain ⟨v, q, t, e, v0, v1, hq⟩ := below_ok a p s (l.length : Int) ha hp (by omega) (by omega)
  unfold S.l1PickInt
  obtain ⟨i, rfl⟩ : ∃ i : Nat, v = i := ⟨v.toNat, by omega⟩
  have hi : i < l.length := by omega
  rw [e, Option.bind_some, idx_nat l hi, Option.bind_some]
  exact ⟨_, _, _, rfl, List.getElem_mem hi, hq⟩
theorem new_ok (a : Code) (ha : a.length ≤ 1048576) : ∃ t, S.l1New a = some (a, 0, t) := by
  unfold S.l1New
  have key : ∀ (K i : Nat) (x : Int), i ≤ a.length → a.length < i + K → ∃ t, S.l1New_l1 a K x (i : Int) = some t := by
    intro K
    induction K with
    | zero => intro i x h1 h2; omega
    | succ K ih =>
      intro i x h1 h2
      rw [S.l1New_l1]
      by_cases hi : i < a.length
      · rw [if_pos (by simpa using hi), Option.bind_some]
        by_cases h4 : (i : Int) < 4000
        · rw [if_pos (by simpa using h4), idx_nat a hi, Option.bind_some, w64_succ (by omega)]
          exact ih (i + 1) _ (by omega) (by omega)
        · rw [if_neg (by simpa using h4)]; exact ⟨_, rfl⟩
      · rw [if_neg (by simpa using hi), Option.bind_some, if_neg (by simp)]; exact ⟨_, rfl⟩
  obtain ⟨t, h⟩ := key FUEL 0 (w64 (10101 + (a.length : Int))) (by omega) (by rw [FUEL_eq]; omega)
  have h' : S.l1New_l1 a FUEL (w64 (10101 + (a.length : Int))) 0 = some t := h
  rw [h']
  exact ⟨t, rfl⟩

end Go.Gx.Px
