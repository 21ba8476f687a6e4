/- Plain laws, many texts in one. Conditions: none. -/
import Derived.Test.YtbgcgjhbnclpdaaDoorPlSp
import Derived.Test.YtbgcgjhbnclpdaaDoorPlTy
set_option linter.unusedVariables false
set_option linter.unusedSimpArgs false
namespace Go.Gx.Px
abbrev Fa := Int × List Int
theorem inS (a b c : Int) : S.l1In a b c = some (inR a b c) := by
 unfold S.l1In inR
 by_cases h : b ≤ a <;> simp [h]
theorem inM (a b c : Int) : M.within a b c = some (inR a b c) := by
 unfold M.within inR
 by_cases h : b ≤ a <;> simp [h]
theorem any_loop {α β : Type} (f : Nat → Int → Option (Sum Unit β)) (a : List α) (q : α → Bool) (b : β) (hn : a.length ≤ 4294967296) (he : ∀ k, f (k + 1) (a.length : Int) = some (.inl ()))
  (hs : ∀ k (i : Nat) (hi : i < a.length), f (k + 1) (i : Int) = if q a[i] then some (.inr b) else f k ((i + 1 : Nat) : Int)) : f FUEL 0 = some (if a.any q then .inr b else .inl ()) := by
 rw [all_loop f a (fun e => !q e) b hn he (fun k i hi => by rw [hs k i hi]; cases q a[i] <;> rfl)]
 have : a.all (fun e => !q e) = !a.any q := by rw [List.any_eq_not_all_not]; simp
 rw [this]; cases a.any q <;> rfl
theorem any_not {α : Type} (l : List α) (q : α → Bool) : l.any (fun e => !q e) = !l.all q := by rw [List.all_eq_not_any_not]; simp

theorem l2One_eq (r : Int) (v : List Int) (h : v.length ≤ 1048576) : S.l2One r v = some (r, v) := by
 unfold S.l2One; rw [app_eq _ _ (by simp; omega)]; rfl

def cmpL : List Int → List Int → Int
 | [], [] => 0
 | [], _ :: _ => -1
 | _ :: _, [] => 1
 | x :: a, y :: b => if x < y then -1 else if y < x then 1 else cmpL a b
def cmpF (a b : Int × List Int) : Int := if a.1 < b.1 then -1 else if b.1 < a.1 then 1 else cmpL a.2 b.2
theorem CompareFacts_S (a b : Int × List Int) (ha : a.2.length ≤ 4294967296) (hb : b.2.length ≤ 4294967296) : S.CompareFacts a b = some (cmpF a b) := by
 unfold S.CompareFacts
 by_cases h0 : a.1 = b.1
 ·have hc : cmpF a b = cmpL a.2 b.2 := by unfold cmpF; rw [if_neg (by omega), if_neg (by omega)]
  rw [hc, if_neg (by simp [h0])]
  have key : ∀ (K i : Nat), i ≤ a.2.length → i ≤ b.2.length → a.2.length < i + K → (S.CompareFacts_l1 a b K (i : Int)).bind (fun o => match o with
    | .inl () => if (decide ((List.length a.2 : Int) < (List.length b.2 : Int))) then some (-1) else if (decide ((List.length b.2 : Int) < (List.length a.2 : Int))) then some 1 else some 0
    | .inr r => some r) = some (cmpL (a.2.drop i) (b.2.drop i)) := by
   intro K
   induction K with
   | zero => intro i h1 h2 h3; omega
   | succ K ih =>
    intro i h1 h2 h3
    rw [S.CompareFacts_l1]
    by_cases hi : i < a.2.length
    ·rw [if_pos (show decide ((i : Int) < (List.length a.2 : Int)) = true by simpa using hi), Option.bind_some]
     by_cases hj : i < b.2.length
     ·rw [if_pos (show decide ((i : Int) < (List.length b.2 : Int)) = true by simpa using hj)]
      simp only [Option.bind_some, idx_nat a.2 hi, idx_nat b.2 hj]
      rw [List.drop_eq_getElem_cons hi, List.drop_eq_getElem_cons hj]
      unfold cmpL
      by_cases g1 : a.2[i] < b.2[i]
      ·simp [g1]
      ·by_cases g2 : b.2[i] < a.2[i]
       ·simp [g1, g2]
       ·simp only [g1, g2, decide_false, Bool.false_eq_true, if_false]
        rw [w64_succ (by omega)]
        exact ih (i + 1) (by omega) (by omega) (by omega)
     ·obtain rfl : i = b.2.length := by omega
      rw [if_neg (by simp), Option.bind_some, List.drop_length, List.drop_eq_getElem_cons hi]
      simp only
      rw [if_neg (by simp; omega), if_pos (by simpa using hi)]
      unfold cmpL; rfl
    ·obtain rfl : i = a.2.length := by omega
     rw [if_neg (by simp), Option.bind_some, if_neg (by simp), Option.bind_some, List.drop_length]
     simp only
     by_cases hj : a.2.length < b.2.length
     ·rw [List.drop_eq_getElem_cons hj]; unfold cmpL; simp [hj]
     ·have : b.2.drop a.2.length = [] := List.drop_eq_nil_of_le (by omega)
      rw [this]; unfold cmpL; simp [hj]; omega
  have h9 := key FUEL 0 (by omega) (by omega) (by rw [FUEL_eq]; omega)
  rw [List.drop_zero, List.drop_zero] at h9
  exact h9
 ·rw [if_pos (by simpa using h0)]
  unfold cmpF
  by_cases h1 : a.1 < b.1
  ·simp [h1]
  ·have : b.1 < a.1 := by omega
   simp [h1, this]
def schOk (s : List Int) : Bool := s.all (fun n => inR n 1 3) && inR (s.length : Int) 1 3
theorem IsSchema_S (s : List Int) (h : s.length ≤ 4294967296) : S.IsSchema s = some (schOk s) := by
 unfold S.IsSchema schOk
 rw [all_loop (S.IsSchema_l1 s) s (fun n => inR n 1 3) false h (fun k => by rw [S.IsSchema_l1, if_neg (by simp)]) (fun k i hi => by
  rw [S.IsSchema_l1, if_pos (by simpa using hi), idx_nat s hi, Option.bind_some, inS, Option.bind_some, w64_succ (by omega)]
  cases inR s[i] 1 3 <;> rfl)]
 cases s.all (fun n => inR n 1 3)
 ·rfl
 ·simp [inS]
def valsOk (l : List Int) : Bool := l.all fun n => inR n 0 9
theorem areValues_M (l : List Int) (h : l.length ≤ 4294967296) : M.areValues l = some (valsOk l) := by
 unfold M.areValues valsOk
 rw [Slices_ContainsFunc_Lint_int_M_areValues_c1_eq l (fun n => !inR n 0 9) h (fun e he => by unfold M.areValues_c1 M.isValue; rw [inM]; rfl), any_not]
 simp
theorem sch_len {s : List Int} (h : schOk s = true) : 1 ≤ s.length ∧ s.length ≤ 3 := by
 unfold schOk at h; rw [Bool.and_eq_true, inR_iff] at h; omega
theorem cmpL_anti : ∀ (a b : List Int), cmpL b a = - cmpL a b
 | [], [] => rfl
 | [], _ :: _ => rfl
 | _ :: _, [] => rfl
 | x :: a, y :: b => by
  unfold cmpL
  by_cases h : x < y
  ·have : ¬ y < x := by omega
   simp [h, this]
  ·by_cases h2 : y < x
   ·simp [h, h2]
   ·simp only [h, h2, if_false]; exact cmpL_anti a b
theorem cmpF_anti (a b : Fa) : cmpF b a = - cmpF a b := by
 unfold cmpF
 by_cases h : a.1 < b.1
 ·have : ¬ b.1 < a.1 := by omega
  simp [h, this]
 ·by_cases h2 : b.1 < a.1
  ·simp [h, h2]
  ·simp only [h, h2, if_false]; exact cmpL_anti _ _
def hasF (l : List Fa) (f : Fa) : Bool := l.any fun e => decide (cmpF e f = 0)
theorem sm_v {l : List Fa} (h : SZ.sm l) {e : Fa} (he : e ∈ l) : e.2.length ≤ 4294967296 := by have := (h.2 e he).2.1; omega
theorem HasFact_S (l : List Fa) (f : Fa) (hl : SZ.sm l) (hf : SZ.sm f) : S.HasFact l f = some (hasF l f) := by
 have h1 := hl.1
 have h2 := hf.2.1
 unfold S.HasFact hasF
 rw [any_loop (S.HasFact_l1 l f) l (fun e => decide (cmpF e f = 0)) true (by omega) (fun k => by rw [S.HasFact_l1, if_neg (by simp)]) (fun k i hi => by
  have := CompareFacts_S l[i] f (sm_v hl (List.getElem_mem hi)) (by omega)
  rw [S.HasFact_l1, if_pos (by simpa using hi), idx_nat l hi, Option.bind_some, show (f.1, f.2) = f from rfl, this, Option.bind_some, w64_succ (by omega)])]
 cases l.any (fun e => decide (cmpF e f = 0)) <;> rfl
def gtF (f e : Fa) : Bool := decide (0 < cmpF e f)
def addF (l : List Fa) (f : Fa) : List Fa := if hasF l f then l else l.take (l.findIdx (gtF f)) ++ [f] ++ l.drop (l.findIdx (gtF f))
theorem findIdx_le {α : Type} (q : α → Bool) (l : List α) : l.findIdx q ≤ l.length := List.findIdx_le_length
theorem sm_add {l : List Fa} {f : Fa} (hl : SZ.sm l) (hf : SZ.sm f) (hn : l.length + 1 ≤ 1048576) : SZ.sm (addF l f) := by
 unfold addF
 split
 ·exact hl
 ·refine ⟨by have := findIdx_le (gtF f) l; simp only [List.length_append, List.length_take, List.length_drop, List.length_cons, List.length_nil]; omega, fun e he => ?_⟩
  rcases List.mem_append.1 he with he | he
  ·rcases List.mem_append.1 he with he | he
   ·exact hl.2 e (List.mem_of_mem_take he)
   ·simp at he; subst he; exact hf
  ·exact hl.2 e (List.mem_of_mem_drop he)
theorem addF_len (l : List Fa) (f : Fa) : (addF l f).length ≤ l.length + 1 := by
 unfold addF
 split
 ·omega
 ·have := findIdx_le (gtF f) l; simp only [List.length_append, List.length_take, List.length_drop, List.length_cons, List.length_nil]; omega
theorem AddFact_S (l : List Fa) (f : Fa) (hl : SZ.sm l) (hf : SZ.sm f) : S.AddFact l f = some (addF l f) := by
 have h1 := hl.1
 have h2 := hf.2.1
 unfold S.AddFact
 rw [show (f.1, f.2) = f from rfl, HasFact_S l f hl hf, Option.bind_some]
 have hone : ∀ (i : Nat) (hi : i < l.length), S.l2One l[i].1 l[i].2 = some l[i] := fun i hi => l2One_eq _ _ (hl.2 _ (List.getElem_mem hi)).2.1
 have hc : ∀ (i : Nat) (hi : i < l.length), S.CompareFacts f l[i] = some (cmpF f l[i]) := fun i hi => CompareFacts_S f l[i] (by omega) (sm_v hl (List.getElem_mem hi))
 have hq : ∀ e : Fa, decide (cmpF f e < 0) = gtF f e := fun e => by unfold gtF; rw [cmpF_anti f e]; congr 1; exact propext ⟨fun h => by omega, fun h => by omega⟩
 unfold addF
 cases hasF l f
 ·simp only [Bool.false_eq_true, if_false]
  generalize hp : l.findIdx (gtF f) = p
  have hple : p ≤ l.length := by rw [← hp]; exact findIdx_le _ _
  obtain ⟨k, s, g1, rfl⟩ := loop_inv0 (fun k (s : List Fa × Bool) i => S.AddFact_l1 l f k s.1 s.2 i) (fun i s => s = if p < i then (l.take p ++ [f] ++ (l.take i).drop p, true) else (l.take i, false)) l.length (by omega) (([] : List Fa), false) (by simp) (fun k i s hi hs => by
   subst hs
   refine ⟨_, ?_, rfl⟩
   have ht : l.take (i + 1) = l.take i ++ [l[i]] := by rw [List.take_add_one, List.getElem?_eq_getElem hi]; rfl
   by_cases c1 : p < i
   ·have e1 : (l.take p ++ [f] ++ (l.take i).drop p) ++ [l[i]] = l.take p ++ [f] ++ (l.take (i + 1)).drop p := by
     rw [ht, List.drop_append_of_le_length (by rw [List.length_take]; omega), List.append_assoc]
    simp only [c1, if_true, show p < i + 1 by omega]
    rw [S.AddFact_l1, if_pos (by simpa using hi), idx_nat l hi]
    simp only [Bool.not_true, Bool.false_eq_true, if_false, Option.bind_some, hone i hi]
    rw [app_eq _ _ (by simp only [List.length_append, List.length_take, List.length_drop, List.length_cons, List.length_nil]; omega), Option.bind_some, w64_succ (by omega), show (l[i].1, l[i].2) = l[i] from rfl, e1]
   ·have hgt : gtF f l[i] = decide (p = i) := by
     by_cases c2 : p = i
     ·subst c2
      have := List.findIdx_getElem (xs := l) (p := gtF f) (w := by rw [hp]; exact hi)
      simp only [hp] at this
      rw [this]; simp
     ·have h9 := List.not_of_lt_findIdx (xs := l) (p := gtF f) (i := i) (by omega)
      simp only [c2, decide_false]
      simpa using h9
    simp only [c1, if_false]
    rw [S.AddFact_l1, if_pos (by simpa using hi), idx_nat l hi]
    simp only [Bool.not_false, if_true, Option.bind_some, hc i hi, hq, hgt, hone i hi]
    by_cases c2 : p = i
    ·subst c2
     simp only [decide_true, if_true, l2One_eq _ _ h2, Option.bind_some, show (f.1, f.2) = f from rfl, show p < p + 1 by omega]
     rw [app_eq _ _ (by simp only [List.length_take, List.length_cons, List.length_nil]; omega)]
     simp only [Option.bind_some]
     rw [app_eq _ _ (by simp only [List.length_append, List.length_take, List.length_cons, List.length_nil]; omega), Option.bind_some, w64_succ (by omega), show (l[p].1, l[p].2) = l[p] from rfl, ht, List.drop_append_of_le_length (by rw [List.length_take]; omega)]
     simp
    ·simp only [c2, decide_false, Bool.false_eq_true, if_false, Option.bind_some, show ¬ p < i + 1 by omega]
     rw [app_eq _ _ (by simp only [List.length_take, List.length_cons, List.length_nil]; omega), Option.bind_some, w64_succ (by omega), show (l[i].1, l[i].2) = l[i] from rfl, ht])
  rw [g1]
  by_cases c1 : p < l.length
  ·simp only [c1, if_true]
   rw [S.AddFact_l1, if_neg (by simp), Option.bind_some]
   simp
  ·have : p = l.length := by omega
   subst this
   simp only [Nat.lt_irrefl, if_false]
   rw [S.AddFact_l1, if_neg (by simp), Option.bind_some]
   simp only [Bool.not_false, if_true, l2One_eq _ _ h2, Option.bind_some]
   rw [app_eq _ _ (by simp only [List.length_take, List.length_cons, List.length_nil]; omega)]
   simp
 ·simp only [if_true]
  obtain ⟨k, s, g1, rfl⟩ := loop_inv0 (fun k (s : List Fa × Bool) i => S.AddFact_l1 l f k s.1 s.2 i) (fun i s => s = (l.take i, true)) l.length (by omega) (([] : List Fa), true) (by simp) (fun k i s hi hs => by
   subst hs
   refine ⟨_, ?_, rfl⟩
   show S.AddFact_l1 l f (k + 1) (l.take i) true i = S.AddFact_l1 l f k (l.take (i + 1)) true _
   rw [S.AddFact_l1, if_pos (by simpa using hi), idx_nat l hi]
   simp only [Bool.not_true, Bool.false_eq_true, if_false, Option.bind_some, hone i hi]
   rw [app_eq _ _ (by simp only [List.length_take, List.length_cons, List.length_nil]; omega), Option.bind_some, w64_succ (by omega), List.take_add_one, List.getElem?_eq_getElem hi]
   rfl)
  rw [g1]
  simp only
  rw [S.AddFact_l1, if_neg (by simp), Option.bind_some]
  simp

theorem shr7 (x : Int) (h0 : 0 ≤ x) (h1 : x < 2 ^ 62) : shr x 7 = w64 (x.tdiv 128) := by
 have h2 : x.tdiv 128 = x / 128 := Int.tdiv_eq_ediv_of_nonneg h0
 have h3 : shr x 7 = x / 128 := by
  unfold shr
  rw [Int.fdiv_eq_ediv_of_nonneg _ (by decide)]
  rfl
 rw [h2, h3, w64_id (by omega) (by omega)]
theorem w8_mod (x : Int) : w8 x = x % 256 := by
 unfold w8
 simp [IntKind.wrap, IntKind.bits, IntKind.signed]
theorem or128 (n : Nat) : ((BitVec.ofNat 8 n) ||| 128#8).toNat = 128 + n % 128 := by
 have h : ∀ b : BitVec 8, (b ||| 128#8).toNat = 128 + b.toNat % 128 := by decide +kernel
 rw [h]
 simp
theorem byte_same (x : Int) (h0 : 0 ≤ x) : UInt8.ofNat (Int.toNat (bor8 (w8 x) 128)) = u8 (w64 (128 + x.tmod 128)) := by
 have h2 : x.tmod 128 = x % 128 := Int.tmod_eq_emod_of_nonneg h0
 have h4 : w64 (128 + x.tmod 128) = 128 + x % 128 := by rw [h2, w64_id (by omega) (by omega)]
 have h5 : bor8 (w8 x) 128 = 128 + x % 128 := by
  unfold bor8
  rw [w8_eq, w8_mod, w8_mod]
  have e1 : BitVec.ofInt 8 (x % 256) = BitVec.ofNat 8 (x % 256).toNat := by
   rw [← BitVec.ofInt_natCast]; congr 1; omega
  have e2 : BitVec.ofInt 8 128 = 128#8 := rfl
  rw [e1, e2, or128]
  omega
 rw [h5, h4]
 unfold u8
 rw [w8_mod]
 congr 1
 omega
theorem Varint_same : ∀ (n : Nat) (x : Int) (l : List UInt8), 0 ≤ x → x < 2 ^ 62 → M.EncodeVarint_l1 n x l = S.EncodeVarint_l1 n x l
 | 0, _, _, _, _ => rfl
 | n + 1, x, l, h0, h1 => by
  rw [M.EncodeVarint_l1, S.EncodeVarint_l1, byte_same x h0]
  by_cases hc : 128 ≤ x
  ·rw [if_pos (by simpa using hc), if_pos (by simpa using hc), shr7 x h0 h1]
   have h2 : x.tdiv 128 = x / 128 := Int.tdiv_eq_ediv_of_nonneg h0
   have h3 : w64 (x.tdiv 128) = x / 128 := by rw [h2, w64_id (by omega) (by omega)]
   congr 1
   funext y
   rw [h3]
   exact Varint_same n (x / 128) y (by omega) (by omega)
  ·rw [if_neg (by simpa using hc), if_neg (by simpa using hc)]
def enc (n : Nat) : List UInt8 := if h : n < 128 then [UInt8.ofNat n] else UInt8.ofNat (128 + n % 128) :: enc (n / 128)
termination_by n
decreasing_by omega
theorem u8_nat (x : Int) (h0 : 0 ≤ x) (h1 : x < 256) : u8 x = UInt8.ofNat x.toNat := by
 unfold u8; rw [w8_mod]; congr 1; omega
theorem enc_len : ∀ (b x : Nat), x < 128 ^ (b + 1) → (enc x).length ≤ b + 1 := by
 intro b
 induction b with
 | zero => intro x h; rw [enc, dif_pos (by simpa using h)]; simp
 | succ b ih =>
  intro x h
  rw [enc]
  split
  ·simp
  ·rw [Nat.pow_succ] at h
   generalize 128 ^ (b + 1) = P at h ih
   have := ih (x / 128) (by omega)
   simp only [List.length_cons]; omega
theorem enc_loop : ∀ (b K x : Nat) (l : List UInt8), x < 128 ^ (b + 1) → b < K → l.length + b + 1 ≤ 4294967296 → x < 2 ^ 62 → (S.EncodeVarint_l1 K x l).bind (fun (y, m) => (app m [u8 y]).bind fun x7 => some (Str.of x7)) = some (Str.of (l ++ enc x)) := by
 intro b
 induction b with
 | zero =>
  intro K x l h hK hl _
  obtain ⟨K, rfl⟩ : ∃ k, K = k + 1 := ⟨K - 1, by omega⟩
  have h' : x < 128 := by simpa using h
  rw [S.EncodeVarint_l1, if_neg (by simp; omega), Option.bind_some]
  simp only
  rw [app_eq _ _ (by simp; omega), Option.bind_some, enc, dif_pos h', u8_nat _ (by omega) (by omega)]
  simp
 | succ b ih =>
  intro K x l h hK hl hx
  obtain ⟨K, rfl⟩ : ∃ k, K = k + 1 := ⟨K - 1, by omega⟩
  rw [S.EncodeVarint_l1]
  by_cases hc : 128 ≤ x
  ·have e1 : w64 ((x : Int).tdiv 128) = ((x / 128 : Nat) : Int) := by rw [Int.tdiv_eq_ediv_of_nonneg (by omega), w64_id (by omega) (by omega)]; omega
   have e2 : u8 (w64 (128 + (x : Int).tmod 128)) = UInt8.ofNat (128 + x % 128) := by
    rw [Int.tmod_eq_emod_of_nonneg (by omega), w64_id (by omega) (by omega), u8_nat _ (by omega) (by omega)]; congr 1
   rw [if_pos (by simp; omega), app_eq _ _ (by simp; omega), Option.bind_some, e1, e2]
   rw [Nat.pow_succ] at h
   have hp : x / 128 < 128 ^ (b + 1) := by generalize 128 ^ (b + 1) = P at h; omega
   rw [ih K (x / 128) _ hp (by omega) (by simp; omega) (by omega)]
   conv => rhs; rw [enc, dif_neg (by omega)]
   simp
  ·rw [if_neg (by simp; omega), Option.bind_some]
   simp only
   rw [app_eq _ _ (by simp; omega), Option.bind_some, enc, dif_pos (by omega), u8_nat _ (by omega) (by omega)]
   simp
theorem EncodeVarint_S (x : Nat) (h : x < 562949953421312) : S.EncodeVarint x = some (Str.of (enc x)) := by
 unfold S.EncodeVarint
 have hr : inR (x : Int) 0 562949953421311 = true := by rw [inR_iff]; omega
 rw [inS, hr, Option.bind_some, if_neg (by simp), enc_loop 6 FUEL x [] (by simpa using h) (by rw [FUEL_eq]; omega) (by simp) (by omega)]
 rfl
theorem EncodeVarint_M (x : Nat) (h : x < 562949953421312) : M.EncodeVarint x = some (Str.of (enc x)) := by
 rw [← EncodeVarint_S x h]
 unfold M.EncodeVarint S.EncodeVarint
 rw [inS, inM, Varint_same FUEL x [] (by omega) (by omega)]
def vv : List UInt8 → Nat
 | [] => 0
 | b :: l => b.toNat % 128 + 128 * vv l
def okG : Bool → List UInt8 → Bool
 | _, [] => false
 | f, [b] => decide (b.toNat < 128) && (f || decide (b.toNat ≠ 0))
 | _, b :: c :: l => decide (128 ≤ b.toNat) && okG false (c :: l)
theorem enc_ok : ∀ (k n : Nat) (f : Bool), n ≤ k → (f = true ∨ 0 < n) → okG f (enc n) = true := by
 intro k
 induction k with
 | zero =>
  intro n f h h2
  obtain rfl : n = 0 := by omega
  rcases h2 with rfl | h2
  ·rw [enc, dif_pos (by omega)]; rfl
  ·omega
 | succ k ih =>
  intro n f h h2
  rw [enc]
  by_cases hn : n < 128
  ·rw [dif_pos hn]
   unfold okG
   have : (UInt8.ofNat n).toNat = n := by simp; omega
   rw [this]
   rcases h2 with rfl | h2
   ·simp [hn]
   ·have : n ≠ 0 := by omega
    simp [hn, this]
  ·rw [dif_neg hn]
   have h3 := ih (n / 128) false (by omega) (by right; omega)
   have h4 : (UInt8.ofNat (128 + n % 128)).toNat = 128 + n % 128 := by simp; omega
   generalize he : enc (n / 128) = e at h3
   cases e with
   | nil => simp [okG] at h3
   | cons c l =>
    unfold okG
    rw [h4, h3]; simp
theorem ok_pos : ∀ l : List UInt8, okG false l = true → 0 < vv l
 | [], h => by simp [okG] at h
 | [b], h => by simp [okG, vv] at h ⊢; omega
 | b :: c :: l, h => by
  simp only [okG, Bool.and_eq_true] at h
  have := ok_pos (c :: l) h.2
  rw [vv]; omega
theorem ok_enc : ∀ (l : List UInt8) (f : Bool), okG f l = true → enc (vv l) = l
 | [], f, h => by simp [okG] at h
 | [b], f, h => by
  simp only [okG, Bool.and_eq_true, decide_eq_true_eq] at h
  rw [enc, dif_pos (by simp [vv]; omega)]
  have e : vv [b] = b.toNat := by simp [vv]; omega
  rw [e]; simp
 | b :: c :: l, f, h => by
  simp only [okG, Bool.and_eq_true, decide_eq_true_eq] at h
  have h1 := ok_pos _ h.2
  have h2 := ok_enc (c :: l) false h.2
  have hb := b.toNat_lt
  have e : vv (b :: c :: l) = b.toNat % 128 + 128 * vv (c :: l) := rfl
  rw [e, enc, dif_neg (by omega), show (b.toNat % 128 + 128 * vv (c :: l)) / 128 = vv (c :: l) by omega, h2, show 128 + (b.toNat % 128 + 128 * vv (c :: l)) % 128 = b.toNat by omega]
  simp
theorem enc_vv (l : List UInt8) : (enc (vv l) = l) ↔ okG true l = true :=
 ⟨fun h => h ▸ enc_ok _ _ true (Nat.le_refl _) (.inl rfl), fun h => ok_enc l true h⟩
theorem vv_lt : ∀ l : List UInt8, vv l < 128 ^ l.length
 | [] => by simp [vv]
 | b :: l => by
  have := vv_lt l
  rw [vv, List.length_cons, Nat.pow_succ]
  generalize 128 ^ l.length = P at this
  omega
theorem vv_snoc : ∀ (l : List UInt8) (b : UInt8), vv (l ++ [b]) = vv l + b.toNat % 128 * 128 ^ l.length
 | [], b => by simp [vv]
 | a :: l, b => by
  rw [List.cons_append, vv, vv_snoc l b, vv, List.length_cons, Nat.pow_succ, Nat.mul_add]
  have : 128 * (b.toNat % 128 * 128 ^ l.length) = b.toNat % 128 * (128 ^ l.length * 128) := by
   rw [Nat.mul_left_comm, Nat.mul_comm 128 (128 ^ l.length)]
  omega
theorem okG_snoc : ∀ (l : List UInt8) (b : UInt8) (f : Bool), okG f (l ++ [b]) = (l.all (fun c => decide (128 ≤ c.toNat)) && (decide (b.toNat < 128) && ((f && l.isEmpty) || decide (b.toNat ≠ 0))))
 | [], b, f => by simp [okG]
 | [x], b, f => by simp [okG]
 | x :: y :: l, b, f => by
  have := okG_snoc (y :: l) b false
  rw [List.cons_append] at this
  rw [List.cons_append, List.cons_append, okG, this]
  simp [Bool.and_assoc]
def hD (a : List UInt8) (i : Nat) : Option (Int × Int) := if okG true (a.take (i + 1)) then some (((vv (a.take (i + 1)) : Nat) : Int), ((i + 1 : Nat) : Int)) else none
def dcd (a : List UInt8) : Int × Int := ((List.range (min 7 a.length)).findSome? (hD a)).getD (0, 0)
theorem take_snoc {α : Type} (a : List α) {i : Nat} (h : i < a.length) : a.take (i + 1) = a.take i ++ [a[i]] := by rw [List.take_add_one, List.getElem?_eq_getElem h]; rfl
def eqS (x y : Str) : Bool := decide (x = y)
theorem eqS_iff' (x y : Str) : eqS x y = true ↔ x = y := by
 unfold eqS; rw [decide_eq_true_eq]
theorem eqS_iff (x y : List UInt8) : eqS x y = true ↔ x = y := eqS_iff' x y
theorem S_l2 (a : List UInt8) (k : Nat) (x3 x4 : Int) : S.DecodeVarint_l2 a (k + 1) x3 x4 = if (decide (0 ≤ x4)) then
   (idx a x4).bind fun x6 =>
   S.DecodeVarint_l2 a k (w64 ((w64 (x3 * 128)) + ((w64 (UInt8.toNat x6 : Int)).tmod 128))) (w64 (x4 - 1))
  else
   some x3 := rfl
theorem S_l1 (a : List UInt8) (k : Nat) (x1 : Int) : S.DecodeVarint_l1 a (k + 1) x1 = (if (decide (x1 ≤ 7)) then
   some (decide (x1 ≤ (List.length a : Int)))
  else
   some false).bind fun x2 =>
  if x2 then
   (S.DecodeVarint_l2 a FUEL (0 : Int) (w64 (x1 - 1))).bind fun x5 =>
   (sub a 0 x1).bind fun x7 =>
   (S.EncodeVarint x5).bind fun x8 =>
   if (eqS x8 x7) then
    some (.inr (x5, x1))
   else
    S.DecodeVarint_l1 a k (w64 (x1 + 1))
  else
   some (.inl ()) := rfl
theorem M_l1 (a : List UInt8) (k : Nat) (x1 x2 : Int) : M.DecodeVarint_l1 a (k + 1) x1 x2 = if (decide (x2 < (if (List.length a : Int) < 7 then (List.length a : Int) else 7))) then
   (idx a x2).bind fun x3 =>
   (nn (w64 (7 * x2))).bind fun _ =>
   (idx a x2).bind fun x4 =>
   if (decide (128 ≤ (UInt8.toNat x4 : Int))) then
    M.DecodeVarint_l1 a k (bor x1 (shl (w64 (band8 (UInt8.toNat x3 : Int) 127)) (w64 (7 * x2)))) (w64 (x2 + 1))
   else
    (if (decide (0 < x2)) then
     (idx a x2).bind fun x6 =>
     some (decide ((UInt8.toNat x6 : Int) = 0))
    else
     some false).bind fun x5 =>
    if x5 then
     some (.inr (0, 0))
    else
     some (.inr (bor x1 (shl (w64 (band8 (UInt8.toNat x3 : Int) 127)) (w64 (7 * x2))), w64 (x2 + 1)))
  else
   some (.inl ()) := rfl
theorem horner (a : List UInt8) : ∀ (i K x : Nat), i < a.length → i < 1000 → x * 128 ^ (i + 1) + 128 ^ (i + 1) ≤ 1125899906842624 → i + 1 < K → S.DecodeVarint_l2 a K (x : Int) (i : Int) = some ((x * 128 ^ (i + 1) + vv (a.take (i + 1)) : Nat) : Int) := by
 intro i
 induction i with
 | zero =>
  intro K x hi hi9 hx hK
  obtain ⟨K, rfl⟩ : ∃ k, K = k + 2 := ⟨K - 2, by omega⟩
  have hb := a[0].toNat_lt
  rw [S_l2, if_pos (by simp), idx_nat a hi, Option.bind_some, S_l2, w64_sm (n := ((0 : Nat) : Int) - 1) (by omega) (by omega), if_neg (by simp), w64_id (n := (x : Int) * 128) (by omega) (by omega), w64_id (n := (a[0].toNat : Int)) (by omega) (by omega), Int.tmod_eq_emod_of_nonneg (by omega), w64_id (by omega) (by omega), take_snoc a hi]
  simp [vv]
 | succ i ih =>
  intro K x hi hi9 hx hK
  obtain ⟨K, rfl⟩ : ∃ k, K = k + 1 := ⟨K - 1, by omega⟩
  have hb := a[i + 1].toNat_lt
  have hP : 128 ≤ 128 ^ (i + 1) := by rw [Nat.pow_succ]; have := Nat.pow_pos (n := i) (show 0 < 128 by omega); omega
  rw [Nat.pow_succ] at hx
  have h1 : x * 128 ≤ x * (128 ^ (i + 1) * 128) := Nat.mul_le_mul_left x (by omega)
  have e1 : w64 (w64 ((x : Int) * 128) + (w64 (a[i + 1].toNat : Int)).tmod 128) = ((x * 128 + a[i + 1].toNat % 128 : Nat) : Int) := by
   rw [w64_id (n := (x : Int) * 128) (by omega) (by omega), w64_id (n := (a[i + 1].toNat : Int)) (by omega) (by omega), Int.tmod_eq_emod_of_nonneg (by omega), w64_id (by omega) (by omega)]; omega
  have e2 : w64 (((i + 1 : Nat) : Int) - 1) = (i : Int) := by rw [w64_sm (by omega) (by omega)]; omega
  rw [S_l2, if_pos (by simp; omega), idx_nat a hi, Option.bind_some, e1, e2, take_snoc a hi, vv_snoc, List.length_take, Nat.min_eq_left (by omega), Nat.pow_succ 128 (i + 1)]
  have h2 : (x * 128 + a[i + 1].toNat % 128) * 128 ^ (i + 1) = x * (128 ^ (i + 1) * 128) + a[i + 1].toNat % 128 * 128 ^ (i + 1) := by
   rw [Nat.add_mul, Nat.mul_assoc, Nat.mul_comm 128 (128 ^ (i + 1))]
  have h3 : a[i + 1].toNat % 128 * 128 ^ (i + 1) + 128 ^ (i + 1) ≤ 128 ^ (i + 1) * 128 := by
   rw [← Nat.succ_mul, Nat.mul_comm (128 ^ (i + 1)) 128]; exact Nat.mul_le_mul_right _ (by omega)
  rw [ih K _ (by omega) (by omega) (by rw [h2]; omega) (by omega), h2]
  congr 2
  omega
theorem sum_loop {β : Type} (f : Nat → Int → Option (Sum Unit β)) (n : Nat) (h : Nat → Option β) (hn : n ≤ 4294967296) (he : ∀ k, f (k + 1) (n : Int) = some (.inl ()))
  (hs : ∀ k (i : Nat), i < n → f (k + 1) (i : Int) = (match h i with | some b => some (.inr b) | none => f k ((i + 1 : Nat) : Int))) :
  f FUEL 0 = some (match (List.range n).findSome? h with | some b => .inr b | none => .inl ()) := by
 have key : ∀ (K i : Nat), i ≤ n → n < i + K → f K (i : Int) = some (match ((List.range n).drop i).findSome? h with | some b => .inr b | none => .inl ()) := by
  intro K
  induction K with
  | zero => intro i h1 h2; omega
  | succ K ih =>
   intro i h1 h2
   by_cases hi : i < n
   ·rw [hs K i hi, List.drop_eq_getElem_cons (by simpa using hi), List.findSome?_cons, List.getElem_range]
    cases h i with
    | some b => rfl
    | none => exact ih (i + 1) (by omega) (by omega)
   ·obtain rfl : i = n := by omega
    have e0 : (List.range i).drop i = [] := List.drop_eq_nil_of_le (by simp)
    rw [he, e0]; rfl
 have := key FUEL 0 (by omega) (by rw [FUEL_eq]; omega)
 simpa using this
theorem vv_take_lt (a : List UInt8) {i : Nat} (h : i < 7) : vv (a.take (i + 1)) < 562949953421312 := by
 refine Nat.lt_of_lt_of_le (vv_lt _) (Nat.le_trans (Nat.pow_le_pow_right (by omega) (?_ : _ ≤ 7)) (by decide))
 rw [List.length_take]; omega
theorem DecodeVarint_S (a : List UInt8) (hl : a.length ≤ 1048576) : S.DecodeVarint a = some (dcd a) := by
 have hlo := sum_loop (fun k x => S.DecodeVarint_l1 a k (x + 1)) (min 7 a.length) (hD a) (by omega) (fun k => by
  show S.DecodeVarint_l1 a (k + 1) (((min 7 a.length : Nat) : Int) + 1) = _
  rw [S_l1]
  by_cases h7 : ((min 7 a.length : Nat) : Int) + 1 ≤ 7
  ·rw [if_pos (by simpa using h7), Option.bind_some, if_neg (by simp only [decide_eq_true_eq]; show ¬ ((min 7 a.length : Nat) : Int) + 1 ≤ (a.length : Int); omega)]
  ·rw [if_neg (by simpa using h7), Option.bind_some, if_neg (by simp)]) (fun k i hi => by
  have hi7 : i < 7 := by omega
  have hia : i < a.length := by omega
  have hv := vv_take_lt a hi7
  have hP : 128 ^ (i + 1) ≤ 128 ^ 7 := Nat.pow_le_pow_right (by omega) (by omega)
  show S.DecodeVarint_l1 a (k + 1) ((i : Int) + 1) = _
  have e1 : w64 ((i : Int) + 1 - 1) = (i : Int) := by rw [w64_sm (by omega) (by omega)]; omega
  have hho := horner a i FUEL 0 hia (by omega) (by rw [Nat.zero_mul]; exact Nat.le_trans (by omega) (show 128 ^ 7 ≤ 1125899906842624 by decide)) (by rw [FUEL_eq]; omega)
  rw [Nat.zero_mul, Nat.zero_add] at hho
  have hsub : sub a 0 ((i : Int) + 1) = some (a.take (i + 1)) := by
   unfold sub
   rw [if_pos ⟨by omega, by omega, by omega⟩]
   rfl
  rw [S_l1, if_pos (by simp; omega), Option.bind_some, if_pos (by simp only [decide_eq_true_eq]; show (i : Int) + 1 ≤ (a.length : Int); omega), e1]
  rw [show S.DecodeVarint_l2 a FUEL 0 (i : Int) = _ from hho, Option.bind_some, hsub, Option.bind_some, EncodeVarint_S _ hv, Option.bind_some]
  unfold hD
  by_cases hok : okG true (a.take (i + 1)) = true
  ·have e2 := (enc_vv _).2 hok
   rw [if_pos hok, if_pos ((eqS_iff _ _).2 e2)]
   rfl
  ·rw [if_neg hok, if_neg (fun h => hok ((enc_vv _).1 ((eqS_iff _ _).1 h)))]
   rw [w64_sm (by omega) (by omega)]
   rfl)
 have hlo' : S.DecodeVarint_l1 a FUEL 1 = _ := hlo
 show (S.DecodeVarint_l1 a FUEL 1).bind _ = _
 rw [hlo']
 unfold dcd
 cases (List.range (min 7 a.length)).findSome? (hD a) <;> rfl
theorem and127 (b : UInt8) : w64 (band8 (UInt8.toNat b : Int) 127) = ((b.toNat % 128 : Nat) : Int) := by
 have h : ∀ c : BitVec 8, (c &&& 127#8).toNat = c.toNat % 128 := by decide +kernel
 have hb := b.toNat_lt
 have e : band8 (UInt8.toNat b : Int) 127 = ((b.toNat % 128 : Nat) : Int) := by
  unfold band8
  rw [w8_eq, w8_mod]
  have e1 : BitVec.ofInt 8 (b.toNat : Int) = BitVec.ofNat 8 b.toNat := by rw [← BitVec.ofInt_natCast]
  have e2 : BitVec.ofInt 8 127 = 127#8 := rfl
  rw [e1, e2, h]
  simp only [BitVec.toNat_ofNat]
  omega
 rw [e, w64_id (by omega) (by omega)]
theorem bor_add (x y i : Nat) (hx : x < 128 ^ i) (hy : y < 128) (hi : i < 7) : bor (x : Int) (shl (y : Int) (w64 (7 * (i : Int)))) = ((x + y * 128 ^ i : Nat) : Int) := by
 have hP : 128 ^ i ≤ 128 ^ 6 := Nat.pow_le_pow_right (by omega) (by omega)
 have hP' : 128 ^ i ≤ 4398046511104 := hP
 have hm : y * 128 ^ i ≤ 127 * 128 ^ i := Nat.mul_le_mul_right _ (by omega)
 have e1 : shl (y : Int) (w64 (7 * (i : Int))) = ((y * 128 ^ i : Nat) : Int) := by
  unfold shl
  rw [w64_sm (n := 7 * (i : Int)) (by omega) (by omega), show (7 * (i : Int)).toNat = 7 * i by omega, Nat.min_eq_left (by omega)]
  have e2 : (2 : Int) ^ (7 * i) = ((128 ^ i : Nat) : Int) := by
   rw [Int.pow_mul]; simp
  rw [e2, ← Int.natCast_mul, w64_id (by omega) (by omega)]
 rw [e1]
 unfold bor
 rw [w64_eq]
 have e3 : (BitVec.ofInt 64 (x : Int) ||| BitVec.ofInt 64 ((y * 128 ^ i : Nat) : Int)).toNat = x + y * 128 ^ i := by
  rw [BitVec.ofInt_natCast, BitVec.ofInt_natCast, BitVec.toNat_or, BitVec.toNat_ofNat, BitVec.toNat_ofNat, Nat.mod_eq_of_lt (by omega), Nat.mod_eq_of_lt (by omega)]
  have e4 : (128 : Nat) ^ i = 2 ^ (7 * i) := by rw [Nat.pow_mul]
  rw [e4] at hx ⊢
  have := Nat.two_pow_add_eq_or_of_lt hx y
  rw [Nat.or_comm, Nat.mul_comm y, ← this]; omega
 rw [e3, w64_id (by omega) (by omega)]
theorem hD_snoc (a : List UInt8) {i : Nat} (h : i < a.length) : okG true (a.take (i + 1)) = ((a.take i).all (fun c => decide (128 ≤ c.toNat)) && (decide (a[i].toNat < 128) && (decide (i = 0) || decide (a[i].toNat ≠ 0)))) := by
 rw [take_snoc a h, okG_snoc]
 congr 3
 rw [Bool.true_and, Bool.eq_iff_iff, List.isEmpty_iff, decide_eq_true_eq]
 rw [List.take_eq_nil_iff]
 refine ⟨fun h => h.elim id (fun h => ?_), .inl⟩
 subst h; simp at *
theorem findSome_none {α β : Type} (l : List α) (f : α → Option β) (h : ∀ a ∈ l, f a = none) : l.findSome? f = none := by
 induction l with
 | nil => rfl
 | cons a l ih => rw [List.findSome?_cons, h a (List.mem_cons_self ..)]; exact ih (fun b hb => h b (List.mem_cons_of_mem _ hb))
theorem DecodeVarint_M (a : List UInt8) (hl : a.length ≤ 1048576) : M.DecodeVarint a = some (dcd a) := by
 have hmin : (if (List.length a : Int) < 7 then (List.length a : Int) else 7) = ((min 7 a.length : Nat) : Int) := by split <;> omega
 have key : ∀ (K i : Nat), i ≤ min 7 a.length → min 7 a.length < i + K → (a.take i).all (fun c => decide (128 ≤ c.toNat)) = true →
   (M.DecodeVarint_l1 a K ((vv (a.take i) : Nat) : Int) (i : Int)).bind (fun o => match o with | .inl () => some ((0 : Int), (0 : Int)) | .inr r => some r) = some ((((List.range (min 7 a.length)).drop i).findSome? (hD a)).getD (0, 0)) := by
  intro K
  induction K with
  | zero => intro i h1 h2; omega
  | succ K ih =>
   intro i h1 h2 h3
   rw [M_l1, hmin]
   by_cases hi : i < min 7 a.length
   ·have hia : i < a.length := by omega
    have hs := hD_snoc a hia
    rw [h3, Bool.true_and] at hs
    have hP := vv_lt (a.take i)
    rw [List.length_take, Nat.min_eq_left (by omega)] at hP
    have hb := a[i].toNat_lt
    have e1 : bor ((vv (a.take i) : Nat) : Int) (shl (w64 (band8 (UInt8.toNat a[i] : Int) 127)) (w64 (7 * (i : Int)))) = ((vv (a.take (i + 1)) : Nat) : Int) := by
     rw [and127, bor_add _ _ i hP (by omega) (by omega), take_snoc a hia, vv_snoc, List.length_take, Nat.min_eq_left (by omega)]
    have e2 : nn (w64 (7 * (i : Int))) = some () := by rw [w64_sm (by omega) (by omega)]; unfold nn; rw [if_pos (by omega)]
    rw [if_pos (by simp; omega), idx_nat a hia, Option.bind_some, e2, Option.bind_some, Option.bind_some, e1, w64_succ (by omega)]
    rw [List.drop_eq_getElem_cons (by simpa using hi), List.findSome?_cons, List.getElem_range]
    unfold hD
    rw [hs]
    by_cases c1 : 128 ≤ a[i].toNat
    ·rw [if_pos (by simp; omega), if_neg (by simp; omega)]
     refine ih (i + 1) (by omega) (by omega) ?_
     rw [take_snoc a hia, List.all_append, h3]
     simpa using c1
    ·rw [if_neg (by simp; omega)]
     by_cases c2 : 0 < i ∧ a[i].toNat = 0
     ·rw [if_pos (by simp; omega), Option.bind_some, decide_eq_true (show (a[i].toNat : Int) = 0 by omega), Option.bind_some, if_pos rfl, Option.bind_some, if_neg (by rw [decide_eq_false (show ¬ i = 0 by omega), decide_eq_false (show ¬ a[i].toNat ≠ 0 by omega)]; simp)]
      have : ((List.range (min 7 a.length)).drop (i + 1)).findSome? (hD a) = none := by
       refine findSome_none _ _ fun j hj => ?_
       obtain ⟨k, hk, rfl⟩ := List.getElem_of_mem hj
       rw [List.length_drop, List.length_range] at hk
       rw [List.getElem_drop, List.getElem_range]
       have hj : i + 1 + k < a.length := by omega
       unfold hD
       rw [hD_snoc a hj]
       have : (a.take (i + 1 + k)).all (fun c => decide (128 ≤ c.toNat)) = false := by
        rw [List.all_eq_false]
        refine ⟨a[i], ?_, by simp; omega⟩
        rw [List.mem_take_iff_getElem]
        exact ⟨i, by omega, rfl⟩
       rw [this]; rfl
      unfold hD at this
      simp only [this]
      rfl
     ·have c3 : (if decide (0 < (i : Int)) = true then (some a[i]).bind fun x6 => some (decide ((UInt8.toNat x6 : Int) = 0)) else some false) = some false := by
       by_cases c4 : 0 < i
       ·rw [if_pos (by simpa using c4), Option.bind_some]
        have : ¬ (a[i].toNat : Int) = 0 := by omega
        rw [decide_eq_false this]
       ·rw [if_neg (by simpa using c4)]
      rw [c3, Option.bind_some, if_neg (by simp), Option.bind_some, if_pos (by simp; omega)]
      rfl
   ·obtain rfl : i = min 7 a.length := by omega
    have e0 : (List.range (min 7 a.length)).drop (min 7 a.length) = [] := List.drop_eq_nil_of_le (by simp)
    rw [if_neg (by simp), e0]; rfl
 have := key FUEL 0 (by omega) (by rw [FUEL_eq]; omega) (by simp)
 rw [List.drop_zero] at this
 exact this
theorem dcd_r (a : List UInt8) : dcd a = (0, 0) ∨ ∃ n s : Nat, dcd a = ((n : Int), (s : Int)) ∧ n < 562949953421312 ∧ 1 ≤ s ∧ s ≤ 7 ∧ s ≤ a.length := by
 unfold dcd
 cases h : (List.range (min 7 a.length)).findSome? (hD a) with
 | none => exact .inl rfl
 | some r =>
  obtain ⟨i, hi, h2⟩ := List.exists_of_findSome?_eq_some h
  rw [List.mem_range] at hi
  unfold hD at h2
  split at h2
  ·cases h2
   exact .inr ⟨_, _, rfl, vv_take_lt a (by omega), by omega, by omega, by omega⟩
  ·cases h2

abbrev Li := List UInt8
theorem sub_nat {α : Type} (a : List α) (i j : Nat) (h : i ≤ j) (h2 : j ≤ a.length) : sub a (i : Int) (j : Int) = some ((a.take j).drop i) := by
 unfold sub; rw [if_pos ⟨by omega, by omega, by omega⟩]; simp

theorem dcd_find (a : Li) {i : Nat} (hi : i < min 7 a.length) (h : okG true (a.take (i + 1)) = true) (hno : ∀ j, j < i → okG true (a.take (j + 1)) = false) : dcd a = (((vv (a.take (i + 1)) : Nat) : Int), ((i + 1 : Nat) : Int)) := by
 unfold dcd
 have : (List.range (min 7 a.length)).findSome? (hD a) = some (((vv (a.take (i + 1)) : Nat) : Int), ((i + 1 : Nat) : Int)) := by
  have hsplit : List.range (min 7 a.length) = List.range i ++ (i :: (List.range (min 7 a.length)).drop (i + 1)) := by
   conv => lhs; rw [← List.take_append_drop i (List.range (min 7 a.length))]
   rw [List.take_range, Nat.min_eq_left (by omega), List.drop_eq_getElem_cons (by simpa using hi), List.getElem_range]
  rw [hsplit, List.findSome?_append, findSome_none _ _ (fun j hj => by
   unfold hD; rw [hno j (List.mem_range.1 hj)]; rfl), Option.none_or, List.findSome?_cons]
  unfold hD
  rw [if_pos h]
 rw [this]; rfl
theorem dcd_at {a : Li} {n s : Nat} (h : dcd a = ((n : Int), (s : Int))) (hs : 1 ≤ s) : s ≤ min 7 a.length ∧ n = vv (a.take s) ∧ okG true (a.take s) = true ∧ ∀ j, j < s - 1 → okG true (a.take (j + 1)) = false := by
 unfold dcd at h
 cases hf : (List.range (min 7 a.length)).findSome? (hD a) with
 | none => rw [hf] at h; simp at h; omega
 | some r =>
  rw [hf] at h
  obtain ⟨l1, i, l2, e1, e2, e3⟩ := List.findSome?_eq_some_iff.1 hf
  have hmem : i ∈ List.range (min 7 a.length) := by rw [e1]; simp
  have hi := List.mem_range.1 hmem
  have hl1 : l1 = List.range i := by
   have hlen : l1.length = i := by
    have := congrArg (fun l => l[l1.length]?) e1
    simp only [List.getElem?_append_right (Nat.le_refl _), Nat.sub_self, List.getElem?_cons_zero] at this
    rw [List.getElem?_range (by
     by_cases hc : l1.length < min 7 a.length
     ·exact hc
     ·rw [List.getElem?_eq_none (by simpa using hc)] at this; cases this)] at this
    exact Option.some.inj this
   have := congrArg (fun l => l.take l1.length) e1
   simp only [List.take_left'] at this
   rw [List.take_range, hlen, Nat.min_eq_left (by omega)] at this
   simpa using this.symm
  unfold hD at e2
  split at e2
  ·rename_i hok
   cases e2
   simp only [Option.getD_some, Prod.mk.injEq] at h
   obtain ⟨h1, h2⟩ := h
   obtain rfl : s = i + 1 := by omega
   refine ⟨by omega, by omega, hok, fun j hj => ?_⟩
   have := e3 j (by rw [hl1]; exact List.mem_range.2 (by omega))
   unfold hD at this
   split at this
   ·cases this
   ·exact Bool.eq_false_iff.2 (by assumption)
  ·cases e2
abbrev Code := List UInt8
theorem band255 (x : Int) : 0 ≤ band x 255 ∧ band x 255 ≤ 255 := by
 unfold band
 rw [w64_eq]
 have h : (BitVec.ofInt 64 x &&& BitVec.ofInt 64 255).toNat ≤ 255 := by
  rw [BitVec.toNat_and]; exact Nat.and_le_right
 rw [w64_id (by omega) (by omega)]
 omega
def Pos (a : Code) (p : Int) : Prop := 0 ≤ p ∧ p ≤ (a.length : Int)
theorem byte_ok (a : Code) (p s : Int) (ha : a.length ≤ 1048576) (hp : Pos a p) : ∃ v q t, S.l1Byte (a, p, s) = some (v, (a, q, t)) ∧ 0 ≤ v ∧ v ≤ 255 ∧ Pos a q := by
 unfold S.l1Byte
 obtain ⟨h0, h1⟩ := hp
 by_cases h : p < (a.length : Int)
 ·obtain ⟨i, rfl⟩ : ∃ i : Nat, p = i := ⟨p.toNat, by omega⟩
  have hi : i < a.length := by omega
  rw [if_pos (by simpa using hi), idx_nat a hi, Option.bind_some, Option.bind_some]
  exact ⟨_, _, _, rfl, (band255 _).1, (band255 _).2, by rw [w64_succ (by omega)]; exact ⟨by omega, by omega⟩⟩
 ·rw [if_neg (by simpa using h), Option.bind_some]
  exact ⟨_, _, _, rfl, (band255 _).1, (band255 _).2, h0, h1⟩
theorem below_ok (a : Code) (p s n : Int) (ha : a.length ≤ 1048576) (hp : Pos a p) (h0 : 0 < n) (h1 : n ≤ 256) : ∃ v q t, S.l1Below (a, p, s) n = some (v, (a, q, t)) ∧ 0 ≤ v ∧ v < n ∧ Pos a q := by
 obtain ⟨v, q, t, e, v0, v1, hq⟩ := byte_ok a p s ha hp
 unfold S.l1Below
 have hz : nz n = some () := by unfold nz; rw [if_neg (by omega)]
 rw [if_neg (by simp; omega), if_pos (by simpa using h1), e, Option.bind_some, hz, Option.bind_some]
 refine ⟨_, _, _, rfl, ?_, ?_, hq⟩
 ·rw [Int.tmod_eq_emod_of_nonneg v0]; exact Int.emod_nonneg _ (by omega)
 ·rw [Int.tmod_eq_emod_of_nonneg v0]; exact Int.emod_lt_of_pos _ h0
theorem pick_ok (a : Code) (p s : Int) (l : List Int) (ha : a.length ≤ 1048576) (hp : Pos a p) (h0 : 0 < l.length) (h1 : l.length ≤ 256) : ∃ v q t, S.l1PickInt (a, p, s) l = some (v, (a, q, t)) ∧ v ∈ l ∧ Pos a q := by
 obtain ⟨v, q, t, e, v0, v1, hq⟩ := below_ok a p s (l.length : Int) ha hp (by omega) (by omega)
 unfold S.l1PickInt
 obtain ⟨i, rfl⟩ : ∃ i : Nat, v = i := ⟨v.toNat, by omega⟩
 have hi : i < l.length := by omega
 rw [e, Option.bind_some, idx_nat l hi, Option.bind_some]
 exact ⟨_, _, _, rfl, List.getElem_mem hi, hq⟩
theorem new_ok (a : Code) (ha : a.length ≤ 1048576) : ∃ t, S.l1New a = some (a, 0, t) := by
 unfold S.l1New
 have key : ∀ (K i : Nat) (x : Int), i ≤ a.length → a.length < i + K → ∃ t, S.l1New_l1 a K x (i : Int) = some t := by
  intro K
  induction K with
  | zero => intro i x h1 h2; omega
  | succ K ih =>
   intro i x h1 h2
   rw [S.l1New_l1]
   by_cases hi : i < a.length
   ·rw [if_pos (by simpa using hi), Option.bind_some]
    by_cases h4 : (i : Int) < 4000
    ·rw [if_pos (by simpa using h4), idx_nat a hi, Option.bind_some, w64_succ (by omega)]
     exact ih (i + 1) _ (by omega) (by omega)
    ·rw [if_neg (by simpa using h4)]; exact ⟨_, rfl⟩
   ·rw [if_neg (by simpa using hi), Option.bind_some, if_neg (by simp)]; exact ⟨_, rfl⟩
 obtain ⟨t, h⟩ := key FUEL 0 (w64 (10101 + (a.length : Int))) (by omega) (by rw [FUEL_eq]; omega)
 have h' : S.l1New_l1 a FUEL (w64 (10101 + (a.length : Int))) 0 = some t := h
 rw [h']
 exact ⟨t, rfl⟩

abbrev Mf := Int × List Int × Int × Int × Int
theorem once_ok (a : Code) (p s n : Int) (ha : a.length ≤ 1048576) (hp : Pos a p) (h0 : 0 < n) (h1 : n ≤ 256) : ∃ (b : Bool) (q t : Int), S.l1Once (a, p, s) n = some (b, (a, q, t)) ∧ Pos a q := by
 obtain ⟨v, q, t, e, -, -, hq⟩ := below_ok a p s n ha hp h0 h1
 unfold S.l1Once
 rw [e, Option.bind_some]
 exact ⟨_, _, _, rfl, hq⟩
theorem below_big (a : Code) (p s n : Int) (ha : a.length ≤ 1048576) (hp : Pos a p) (h0 : 0 < n) : ∃ v q t, S.l1Below (a, p, s) n = some (v, (a, q, t)) ∧ 0 ≤ v ∧ v < n ∧ Pos a q := by
 by_cases h1 : n ≤ 256
 ·exact below_ok a p s n ha hp h0 h1
 ·obtain ⟨v1, q1, t1, e1, a1, b1, p1⟩ := byte_ok a p s ha hp
  obtain ⟨v2, q2, t2, e2, a2, b2, p2⟩ := byte_ok a q1 t1 ha p1
  obtain ⟨v3, q3, t3, e3, a3, b3, p3⟩ := byte_ok a q2 t2 ha p2
  obtain ⟨v4, q4, t4, e4, a4, b4, p4⟩ := byte_ok a q3 t3 ha p3
  unfold S.l1Below
  have hz : nz n = some () := by unfold nz; rw [if_neg (by omega)]
  rw [if_neg (by simp; omega), if_neg (by simpa using h1), e1, Option.bind_some]
  simp only
  rw [e2, Option.bind_some]
  simp only
  rw [e3, Option.bind_some]
  simp only
  rw [e4, Option.bind_some, hz, Option.bind_some]
  simp only
  have hw : w64 (w64 (w64 (w64 (v1 * 16777216) + w64 (v2 * 65536)) + w64 (v3 * 256)) + v4) = v1 * 16777216 + v2 * 65536 + v3 * 256 + v4 := by
   rw [w64_id (n := v1 * 16777216) (by omega) (by omega), w64_id (n := v2 * 65536) (by omega) (by omega), w64_id (n := v3 * 256) (by omega) (by omega), w64_id (n := v1 * 16777216 + v2 * 65536) (by omega) (by omega), w64_id (n := v1 * 16777216 + v2 * 65536 + v3 * 256) (by omega) (by omega), w64_id (by omega) (by omega)]
  rw [hw]
  refine ⟨_, _, _, rfl, ?_, ?_, p4⟩
  ·rw [Int.tmod_eq_emod_of_nonneg (by omega)]; exact Int.emod_nonneg _ (by omega)
  ·rw [Int.tmod_eq_emod_of_nonneg (by omega)]; exact Int.emod_lt_of_pos _ h0
theorem w64_down (n : Nat) (h : n < 4294967296) : w64 (((n + 1 : Nat) : Int) - 1) = (n : Int) := by rw [w64_sm (by omega) (by omega)]; omega
theorem schema_loop (a : Code) (ha : a.length ≤ 1048576) (c : Code × Int × Int) (hc : c.1 = a) : ∀ (n K : Nat) (p s : Int) (l : List Int), n < K → l.length + n ≤ 100 → (∀ x ∈ l, 1 ≤ x ∧ x ≤ 3) → Pos a p → ∃ q t m, S.l2Schema_l1 c K p s l (n : Int) = some (q, t, m) ∧ m.length = l.length + n ∧ (∀ x ∈ m, 1 ≤ x ∧ x ≤ 3) ∧ Pos a q := by
 intro n
 induction n with
 | zero =>
  intro K p s l hK hl hm hp
  obtain ⟨K, rfl⟩ : ∃ k, K = k + 1 := ⟨K - 1, by omega⟩
  rw [S.l2Schema_l1, if_neg (by simp)]
  exact ⟨_, _, _, rfl, by omega, hm, hp⟩
 | succ n ih =>
  intro K p s l hK hl hm hp
  obtain ⟨K, rfl⟩ : ∃ k, K = k + 1 := ⟨K - 1, by omega⟩
  obtain ⟨v1, q1, t1, e1, h0, h1, p1⟩ := below_ok a p s 2 ha hp (by omega) (by omega)
  obtain ⟨b2, q2, t2, e2, p2⟩ := once_ok a q1 t1 4 ha p1 (by omega) (by omega)
  rw [S.l2Schema_l1, if_pos (decide_eq_true (by omega)), hc, e1, Option.bind_some]
  simp only
  rw [e2, Option.bind_some]
  simp only
  have hx : ∃ x, (if b2 = true then some (3 : Int) else some (w64 (1 + v1))) = some x ∧ 1 ≤ x ∧ x ≤ 3 := by
   cases b2
   ·exact ⟨_, rfl, by rw [w64_sm (by omega) (by omega)]; omega, by rw [w64_sm (by omega) (by omega)]; omega⟩
   ·exact ⟨3, rfl, by omega, by omega⟩
  obtain ⟨x, hx1, hx2⟩ := hx
  rw [hx1, Option.bind_some, app_eq _ _ (by simp; omega), Option.bind_some, w64_down n (by omega)]
  obtain ⟨q, t, m, g1, g2, g3, g4⟩ := ih K q2 t2 (l ++ [x]) (by omega) (by simp; omega) (fun y hy => by
   rcases List.mem_append.1 hy with hy | hy
   ·exact hm y hy
   ·rw [List.mem_singleton] at hy; subst hy; exact hx2) p2
  exact ⟨q, t, m, g1, by rw [g2]; simp; omega, g3, g4⟩
theorem schema_ok (a : Code) (p s : Int) (ha : a.length ≤ 1048576) (hp : Pos a p) : ∃ (m : List Int) (q t : Int), S.l2Schema (a, p, s) = some (m, (a, q, t)) ∧ schOk m = true ∧ m.length ≤ 3 ∧ Pos a q := by
 obtain ⟨v1, q1, t1, e1, h0, h1, p1⟩ := below_ok a p s 3 ha hp (by omega) (by omega)
 obtain ⟨n, rfl⟩ : ∃ n : Nat, v1 = n := ⟨v1.toNat, by omega⟩
 obtain ⟨q2, t2, m, e2, hl, hm, p2⟩ := schema_loop a ha (a, p, s) rfl (n + 1) FUEL q1 t1 [] (by rw [FUEL_eq]; omega) (by simp; omega) (fun x hx => by cases hx) p1
 unfold S.l2Schema
 rw [e1, Option.bind_some]
 simp only
 have e3 : w64 (1 + (n : Int)) = ((n + 1 : Nat) : Int) := by rw [w64_sm (by omega) (by omega)]; omega
 rw [e3, e2]
 simp only [List.length_nil, Nat.zero_add] at hl
 refine ⟨m, q2, t2, rfl, ?_, by omega, p2⟩
 unfold schOk
 rw [Bool.and_eq_true, List.all_eq_true, inR_iff]
 exact ⟨fun x hx => inR_iff.2 (hm x hx), by omega⟩
theorem anySchema_ok (a : Code) (p s : Int) (ha : a.length ≤ 1048576) (hp : Pos a p) : ∃ (m : List Int) (q t : Int), S.l2AnySchema (a, p, s) = some (m, (a, q, t)) ∧ Pos a q := by
 obtain ⟨m, q1, t1, e1, -, hl, p1⟩ := schema_ok a p s ha hp
 obtain ⟨b, q2, t2, e2, p2⟩ := once_ok a q1 t1 14 ha p1 (by omega) (by omega)
 unfold S.l2AnySchema
 rw [e1, Option.bind_some]
 simp only
 rw [e2, Option.bind_some]
 simp only
 cases b
 ·exact ⟨m, q2, t2, rfl, p2⟩
 ·obtain ⟨v, q3, t3, e3, -, p3⟩ := pick_ok a q2 t2 [0, 1, 4] ha p2 (by simp) (by simp)
  rw [if_pos rfl, e3, Option.bind_some, app_eq _ _ (by simp; omega)]
  exact ⟨_, q3, t3, rfl, p3⟩
theorem sch_arity {sc : List Int} (h : schOk sc = true) {i : Nat} (hi : i < sc.length) : 1 ≤ sc[i] ∧ sc[i] ≤ 3 := by
 unfold schOk at h
 rw [Bool.and_eq_true, List.all_eq_true] at h
 exact inR_iff.1 (h.1 _ (List.getElem_mem hi))
theorem fact_loop (a : Code) (ha : a.length ≤ 1048576) (sc : List Int) (c : Code × Int × Int) (hc : c.1 = a) (w : Int) (hw : 0 < w ∧ w ≤ 256) (r : Nat) (hr : r < sc.length) (ar : Nat) (har : sc[r] = (ar : Int)) (h3 : ar ≤ 3) :
  ∀ (n K : Nat) (p s : Int) (l : List Int) (i : Nat), i + n = ar → l.length = i → n < K → Pos a p → ∃ q t m, S.l2Fact_l1 sc c w K (r : Int) l p s (i : Int) = some ((r : Int), m, q, t) ∧ m.length = ar ∧ Pos a q := by
 intro n
 induction n with
 | zero =>
  intro K p s l i h1 h2 hK hp
  obtain ⟨K, rfl⟩ : ∃ k, K = k + 1 := ⟨K - 1, by omega⟩
  rw [S.l2Fact_l1, idx_nat sc hr, Option.bind_some, if_neg (by rw [har]; simp; omega)]
  exact ⟨_, _, _, rfl, by omega, hp⟩
 | succ n ih =>
  intro K p s l i h1 h2 hK hp
  obtain ⟨K, rfl⟩ : ∃ k, K = k + 1 := ⟨K - 1, by omega⟩
  obtain ⟨v1, q1, t1, e1, -, -, p1⟩ := below_ok a p s w ha hp hw.1 hw.2
  rw [S.l2Fact_l1, idx_nat sc hr, Option.bind_some, if_pos (by rw [har]; exact decide_eq_true (by omega)), hc, e1, Option.bind_some, app_eq _ _ (by simp; omega), Option.bind_some, w64_succ (by omega)]
  exact ih K q1 t1 _ (i + 1) (by omega) (by simp; omega) (by omega) p1
theorem fact_ok (a : Code) (p s : Int) (sc : List Int) (w : Int) (ha : a.length ≤ 1048576) (hp : Pos a p) (hs : schOk sc = true) (hw : 0 < w ∧ w ≤ 256) :
  ∃ (f : Fa) (q t : Int), S.l2Fact (a, p, s) sc w = some (f, (a, q, t)) ∧ 1 ≤ f.2.length ∧ f.2.length ≤ 3 ∧ Pos a q := by
 have hl := sch_len hs
 obtain ⟨v1, q1, t1, e1, h0, h1, p1⟩ := below_ok a p s (sc.length : Int) ha hp (by omega) (by omega)
 obtain ⟨r, rfl⟩ : ∃ r : Nat, v1 = r := ⟨v1.toNat, by omega⟩
 have hr : r < sc.length := by omega
 have har := sch_arity hs hr
 obtain ⟨ar, har2⟩ : ∃ n : Nat, sc[r] = (n : Int) := ⟨(sc[r]).toNat, by omega⟩
 obtain ⟨q2, t2, m, e2, hm, p2⟩ := fact_loop a ha sc (a, p, s) rfl w hw r hr ar har2 (by omega) ar FUEL q1 t1 [] 0 (by omega) rfl (by rw [FUEL_eq]; omega) p1
 have e2' : S.l2Fact_l1 sc (a, p, s) w FUEL (r : Int) [] q1 t1 0 = some ((r : Int), m, q2, t2) := e2
 unfold S.l2Fact
 rw [e1, Option.bind_some]
 simp only
 rw [e2']
 exact ⟨((r : Int), m), q2, t2, rfl, by show 1 ≤ m.length; omega, by show m.length ≤ 3; omega, p2⟩
theorem mem_addF' {l : List Fa} {f e : Fa} (h : e ∈ addF l f) : e ∈ l ∨ e = f := by
 unfold addF at h
 split at h
 ·exact .inl h
 ·rcases List.mem_append.1 h with h | h
  ·rcases List.mem_append.1 h with h | h
   ·exact .inl (List.mem_of_mem_take h)
   ·exact .inr (List.mem_singleton.1 h)
  ·exact .inl (List.mem_of_mem_drop h)
theorem sm_fact {f : Fa} (h : f.2.length ≤ 1048576) : SZ.sm f := ⟨trivial, sm_ints h⟩
theorem facts_loop (a : Code) (ha : a.length ≤ 1048576) (sc : List Int) (hs : schOk sc = true) (c : Code × Int × Int) (hc : c.1 = a) : ∀ (n K : Nat) (p s : Int) (l : List Fa), n < K → l.length + n ≤ 100 → SZ.sm l → (∀ f ∈ l, f.2.length ≤ 3) → Pos a p → ∃ q t m, S.l2Facts_l1 c sc K p s l (n : Int) = some (q, t, m) ∧ m.length ≤ l.length + n ∧ SZ.sm m ∧ (∀ f ∈ m, f.2.length ≤ 3) ∧ Pos a q := by
 intro n
 induction n with
 | zero =>
  intro K p s l hK hl hm hf hp
  obtain ⟨K, rfl⟩ : ∃ k, K = k + 1 := ⟨K - 1, by omega⟩
  rw [S.l2Facts_l1, if_neg (by simp)]
  exact ⟨_, _, _, rfl, by omega, hm, hf, hp⟩
 | succ n ih =>
  intro K p s l hK hl hm hf hp
  obtain ⟨K, rfl⟩ : ∃ k, K = k + 1 := ⟨K - 1, by omega⟩
  obtain ⟨f, q1, t1, e1, h0, h1, p1⟩ := fact_ok a p s sc 4 ha hp hs ⟨by omega, by omega⟩
  have hsf := sm_fact (f := f) (by omega)
  have hlen := addF_len l f
  rw [S.l2Facts_l1, if_pos (decide_eq_true (by omega)), hc, e1, Option.bind_some]
  simp only
  rw [AddFact_S l f hm hsf, Option.bind_some, w64_down n (by omega)]
  obtain ⟨q, t, m, g1, g2, g3, g4, g5⟩ := ih K q1 t1 (addF l f) (by omega) (by omega) (sm_add hm hsf (by omega)) (fun e he => by
   rcases mem_addF' he with he | rfl
   ·exact hf e he
   ·exact h1) p1
  exact ⟨q, t, m, g1, by omega, g3, g4, g5⟩
theorem facts_ok (a : Code) (p s : Int) (sc : List Int) (most : Int) (ha : a.length ≤ 1048576) (hp : Pos a p) (hs : schOk sc = true) (hm : 0 ≤ most ∧ most ≤ 90) :
  ∃ (l : List Fa) (q t : Int), S.l2Facts (a, p, s) sc most = some (l, (a, q, t)) ∧ (l.length : Int) ≤ most ∧ SZ.sm l ∧ (∀ f ∈ l, f.2.length ≤ 3) ∧ Pos a q := by
 obtain ⟨v1, q1, t1, e1, h0, h1, p1⟩ := below_ok a p s (most + 1) ha hp (by omega) (by omega)
 obtain ⟨n, rfl⟩ : ∃ n : Nat, v1 = n := ⟨v1.toNat, by omega⟩
 obtain ⟨q2, t2, m, e2, hl, hsm, hf, p2⟩ := facts_loop a ha sc hs (a, p, s) rfl n FUEL q1 t1 [] (by rw [FUEL_eq]; omega) (by simp; omega) sm_nil (fun f hf => by cases hf) p1
 unfold S.l2Facts
 rw [w64_sm (by omega) (by omega), e1, Option.bind_some]
 simp only
 rw [e2]
 exact ⟨m, q2, t2, rfl, by simp at hl; omega, hsm, hf, p2⟩
theorem anyFact_ok (a : Code) (p s : Int) (sc : List Int) (ha : a.length ≤ 1048576) (hp : Pos a p) (hs : schOk sc = true) :
  ∃ (f : Fa) (q t : Int), S.l2AnyFact (a, p, s) sc = some (f, (a, q, t)) ∧ f.2.length ≤ 4 ∧ Pos a q := by
 have hl := sch_len hs
 obtain ⟨f, q1, t1, e1, h0, h1, p1⟩ := fact_ok a p s sc 10 ha hp hs ⟨by omega, by omega⟩
 obtain ⟨v2, q2, t2, e2, -, -, p2⟩ := below_ok a q1 t1 8 ha p1 (by omega) (by omega)
 unfold S.l2AnyFact
 rw [IsSchema_S sc (by omega), hs, Option.bind_some, if_pos rfl, e1, Option.bind_some, Option.bind_some]
 simp only
 rw [e2, Option.bind_some]
 simp only
 by_cases c0 : v2 = 0
 ·obtain ⟨v3, q3, t3, e3, -, -, p3⟩ := below_ok a q2 t2 5 ha p2 (by omega) (by omega)
  rw [if_pos (decide_eq_true c0), e3]
  exact ⟨_, q3, t3, rfl, by show f.2.length ≤ 4; omega, p3⟩
 ·rw [if_neg (by simpa using c0)]
  by_cases c1 : v2 = 1
  ·obtain ⟨v3, q3, t3, e3, -, p3⟩ := pick_ok a q2 t2 [-1, 9, 10] ha p2 (by simp) (by simp)
   have hi : idx f.2 0 = some (f.2[0]'(by omega)) := idx_nat f.2 (i := 0) (by omega)
   rw [if_pos (decide_eq_true c1), e3, Option.bind_some, hi]
   exact ⟨_, q3, t3, rfl, by show (f.2.set _ _).length ≤ 4; rw [List.length_set]; omega, p3⟩
  ·rw [if_neg (by simpa using c1)]
   by_cases c2 : v2 = 2
   ·rw [if_pos (decide_eq_true c2), app_eq _ _ (by simp; omega)]
    exact ⟨_, q2, t2, rfl, by show (f.2 ++ [1]).length ≤ 4; simp; omega, p2⟩
   ·rw [if_neg (by simpa using c2)]
    exact ⟨_, q2, t2, rfl, by show f.2.length ≤ 4; omega, p2⟩
theorem anyFacts_ok (a : Code) (p s : Int) (sc : List Int) (ha : a.length ≤ 1048576) (hp : Pos a p) (hs : schOk sc = true) :
  ∃ (l : List Fa) (q t : Int), S.l2AnyFacts (a, p, s) sc = some (l, (a, q, t)) ∧ l.length ≤ 9 ∧ (∀ f ∈ l, f.2.length ≤ 4) ∧ Pos a q := by
 have hl := sch_len hs
 obtain ⟨l, q1, t1, e1, h0, h1, hf, p1⟩ := facts_ok a p s sc 8 ha hp hs ⟨by omega, by omega⟩
 obtain ⟨b, q2, t2, e2, p2⟩ := once_ok a q1 t1 10 ha p1 (by omega) (by omega)
 unfold S.l2AnyFacts
 rw [IsSchema_S sc (by omega), hs, Option.bind_some, if_pos rfl, e1, Option.bind_some, Option.bind_some]
 simp only
 rw [e2, Option.bind_some]
 simp only
 cases b
 ·exact ⟨l, q2, t2, rfl, by omega, fun f h => by have := hf f h; omega, p2⟩
 ·obtain ⟨f, q3, t3, e3, h3, p3⟩ := anyFact_ok a q2 t2 sc ha p2 hs
  rw [if_pos rfl, e3, Option.bind_some, app_eq _ _ (by simp; omega)]
  refine ⟨_, q3, t3, rfl, by simp; omega, fun g hg => ?_, p3⟩
  rcases List.mem_append.1 hg with hg | hg
  ·have := hf g hg; omega
  ·rw [List.mem_singleton] at hg; subst hg; exact h3
theorem method_loop (a : Code) (ha : a.length ≤ 1048576) (sc : List Int) (c : Code × Int × Int) (hc : c.1 = a) (r : Nat) (hr : r < sc.length) (ar : Nat) (har : sc[r] = (ar : Int)) (h3 : ar ≤ 3) (x y z : Int) :
  ∀ (n K : Nat) (p s : Int) (l : List Int) (i : Nat), i + n = ar → l.length ≤ i → n < K → Pos a p → ∃ q t m, S.l5Method_l1 sc c K (r : Int) l x y z p s (i : Int) = some ((r : Int), m, x, y, z, q, t) ∧ m.length ≤ 3 ∧ Pos a q := by
 intro n
 induction n with
 | zero =>
  intro K p s l i h1 h2 hK hp
  obtain ⟨K, rfl⟩ : ∃ k, K = k + 1 := ⟨K - 1, by omega⟩
  rw [S.l5Method_l1, idx_nat sc hr, Option.bind_some, if_neg (by rw [har]; simp; omega)]
  exact ⟨p, s, l, rfl, by omega, hp⟩
 | succ n ih =>
  intro K p s l i h1 h2 hK hp
  obtain ⟨K, rfl⟩ : ∃ k, K = k + 1 := ⟨K - 1, by omega⟩
  obtain ⟨b, q1, t1, e1, p1⟩ := once_ok a p s 3 ha hp (by omega) (by omega)
  rw [S.l5Method_l1, idx_nat sc hr, Option.bind_some, if_pos (by rw [har]; exact decide_eq_true (by omega)), hc, e1, Option.bind_some, w64_succ (by omega)]
  simp only
  cases b
  ·exact ih K q1 t1 l (i + 1) (by omega) (by omega) (by omega) p1
  ·rw [if_pos rfl, app_eq l _ (by simp; omega)]
   exact ih K q1 t1 (l ++ [(i : Int)]) (i + 1) (by omega) (by simp; omega) (by omega) p1
theorem method_ok (a : Code) (p s : Int) (sc : List Int) (ha : a.length ≤ 1048576) (hp : Pos a p) (hs : schOk sc = true) :
  ∃ (f : Mf) (q t : Int), S.l5Method (a, p, s) sc = some (f, (a, q, t)) ∧ f.2.1.length ≤ 3 ∧ Pos a q := by
 have hl := sch_len hs
 obtain ⟨v1, q1, t1, e1, h0, h1, p1⟩ := below_ok a p s (sc.length : Int) ha hp (by omega) (by omega)
 obtain ⟨v2, q2, t2, e2, -, p2⟩ := pick_ok a q1 t1 [0, 0, 0, 1, 2] ha p1 (by simp) (by simp)
 obtain ⟨v3, q3, t3, e3, -, -, p3⟩ := below_ok a q2 t2 5 ha p2 (by omega) (by omega)
 obtain ⟨v4, q4, t4, e4, -, -, p4⟩ := below_ok a q3 t3 6 ha p3 (by omega) (by omega)
 obtain ⟨r, rfl⟩ : ∃ r : Nat, v1 = r := ⟨v1.toNat, by omega⟩
 have hr : r < sc.length := by omega
 have har := sch_arity hs hr
 obtain ⟨ar, har2⟩ : ∃ n : Nat, sc[r] = (n : Int) := ⟨(sc[r]).toNat, by omega⟩
 obtain ⟨q5, t5, m, e5, hm, p5⟩ := method_loop a ha sc (a, p, s) rfl r hr ar har2 (by omega) v2 v3 (w64 (1 + v4)) ar FUEL q4 t4 [] 0 (by omega) (by simp) (by rw [FUEL_eq]; omega) p4
 have e5' : S.l5Method_l1 sc (a, p, s) FUEL (r : Int) [] v2 v3 (w64 (1 + v4)) q4 t4 0 = some ((r : Int), m, v2, v3, w64 (1 + v4), q5, t5) := e5
 unfold S.l5Method
 rw [e1, Option.bind_some]
 simp only
 rw [e2, Option.bind_some]
 simp only
 rw [e3, Option.bind_some]
 simp only
 rw [e4, Option.bind_some]
 simp only
 rw [e5']
 exact ⟨((r : Int), m, v2, v3, w64 (1 + v4)), q5, t5, rfl, hm, p5⟩
theorem methods_loop (a : Code) (ha : a.length ≤ 1048576) (sc : List Int) (hs : schOk sc = true) (c : Code × Int × Int) (hc : c.1 = a) : ∀ (n K : Nat) (p s : Int) (l : List Mf), n < K → l.length + n ≤ 100 → (∀ m ∈ l, m.2.1.length ≤ 100) → Pos a p → ∃ q t m, S.l5Methods_l1 c sc K p s l (n : Int) = some (q, t, m) ∧ m.length = l.length + n ∧ (∀ x ∈ m, x.2.1.length ≤ 100) ∧ Pos a q := by
 intro n
 induction n with
 | zero =>
  intro K p s l hK hl hm hp
  obtain ⟨K, rfl⟩ : ∃ k, K = k + 1 := ⟨K - 1, by omega⟩
  rw [S.l5Methods_l1, if_neg (by simp)]
  exact ⟨_, _, _, rfl, by omega, hm, hp⟩
 | succ n ih =>
  intro K p s l hK hl hm hp
  obtain ⟨K, rfl⟩ : ∃ k, K = k + 1 := ⟨K - 1, by omega⟩
  obtain ⟨f, q1, t1, e1, h1, p1⟩ := method_ok a p s sc ha hp hs
  rw [S.l5Methods_l1, if_pos (decide_eq_true (by omega)), hc, e1, Option.bind_some, app_eq _ _ (by simp; omega), Option.bind_some, w64_down n (by omega)]
  obtain ⟨q, t, m, g1, g2, g3, g4⟩ := ih K q1 t1 (l ++ [f]) (by omega) (by simp; omega) (fun y hy => by
   rcases List.mem_append.1 hy with hy | hy
   ·exact hm y hy
   ·rw [List.mem_singleton] at hy; subst hy; omega) p1
  exact ⟨q, t, m, g1, by rw [g2]; simp; omega, g3, g4⟩
theorem methods_ok (a : Code) (p s : Int) (sc : List Int) (ha : a.length ≤ 1048576) (hp : Pos a p) (hs : schOk sc = true) :
  ∃ (l : List Mf) (q t : Int), S.l5Methods (a, p, s) sc = some (l, (a, q, t)) ∧ l.length ≤ 4 ∧ (∀ m ∈ l, m.2.1.length ≤ 100) ∧ Pos a q := by
 obtain ⟨v1, q1, t1, e1, h0, h1, p1⟩ := below_ok a p s 4 ha hp (by omega) (by omega)
 obtain ⟨n, rfl⟩ : ∃ n : Nat, v1 = n := ⟨v1.toNat, by omega⟩
 obtain ⟨q2, t2, m, e2, hl, hm, p2⟩ := methods_loop a ha sc hs (a, p, s) rfl (n + 1) FUEL q1 t1 [] (by rw [FUEL_eq]; omega) (by simp; omega) (fun x hx => by cases hx) p1
 have e3 : w64 (1 + (n : Int)) = ((n + 1 : Nat) : Int) := by rw [w64_sm (by omega) (by omega)]; omega
 unfold S.l5Methods
 rw [e1, Option.bind_some]
 simp only
 rw [e3, e2]
 exact ⟨m, q2, t2, rfl, by simp at hl; omega, hm, p2⟩
theorem anyMethod_ok (a : Code) (p s : Int) (sc : List Int) (ha : a.length ≤ 1048576) (hp : Pos a p) (hs : schOk sc = true) :
  ∃ (f : Mf) (q t : Int), S.l5AnyMethod (a, p, s) sc = some (f, (a, q, t)) ∧ f.2.1.length ≤ 100 ∧ Pos a q := by
 have hl := sch_len hs
 obtain ⟨f, q1, t1, e1, h1, p1⟩ := method_ok a p s sc ha hp hs
 obtain ⟨v2, q2, t2, e2, -, -, p2⟩ := below_ok a q1 t1 10 ha p1 (by omega) (by omega)
 unfold S.l5AnyMethod
 rw [IsSchema_S sc (by omega), hs, Option.bind_some, if_pos rfl, e1, Option.bind_some, Option.bind_some]
 simp only
 rw [e2, Option.bind_some]
 simp only
 by_cases c0 : v2 = 0
 ·obtain ⟨v3, q3, t3, e3, -, p3⟩ := pick_ok a q2 t2 [-1, 9, 10] ha p2 (by simp) (by simp)
  rw [if_pos (decide_eq_true c0), e3]
  exact ⟨_, q3, t3, rfl, by show f.2.1.length ≤ 100; omega, p3⟩
 ·rw [if_neg (by simpa using c0)]
  by_cases c1 : v2 = 1
  ·obtain ⟨v3, q3, t3, e3, -, -, p3⟩ := below_ok a q2 t2 5 ha p2 (by omega) (by omega)
   rw [if_pos (decide_eq_true c1), e3, Option.bind_some, app_eq _ _ (by simp; omega)]
   exact ⟨_, q3, t3, rfl, by show (f.2.1 ++ [_]).length ≤ 100; simp; omega, p3⟩
  ·rw [if_neg (by simpa using c1)]
   by_cases c2 : v2 = 2
   ·obtain ⟨v3, q3, t3, e3, -, p3⟩ := pick_ok a q2 t2 [0, 99, 100] ha p2 (by simp) (by simp)
    rw [if_pos (decide_eq_true c2), e3]
    exact ⟨_, q3, t3, rfl, by show f.2.1.length ≤ 100; omega, p3⟩
   ·rw [if_neg (by simpa using c2)]
    by_cases c3 : v2 = 3
    ·obtain ⟨v3, q3, t3, e3, -, p3⟩ := pick_ok a q2 t2 [-1, 99, 100] ha p2 (by simp) (by simp)
     rw [if_pos (decide_eq_true c3), e3]
     exact ⟨_, q3, t3, rfl, by show f.2.1.length ≤ 100; omega, p3⟩
    ·rw [if_neg (by simpa using c3)]
     exact ⟨_, q2, t2, rfl, by show f.2.1.length ≤ 100; omega, p2⟩
theorem draw5_ok (a : Code) (p s : Int) (ha : a.length ≤ 1048576) (hp : Pos a p) :
  ∃ (sc : List Int) (l : List Mf) (f : List Fa) (q t : Int), S.l5Draw (a, p, s) = some (sc, l, f, (a, q, t)) ∧ l.length ≤ 5 ∧ (∀ m ∈ l, m.2.1.length ≤ 100) ∧ Pos a q := by
 obtain ⟨sc, q1, t1, e1, hs, -, p1⟩ := schema_ok a p s ha hp
 obtain ⟨l, q2, t2, e2, hl, hm, p2⟩ := methods_ok a q1 t1 sc ha p1 hs
 obtain ⟨f, q3, t3, e3, -, -, -, p3⟩ := facts_ok a q2 t2 sc 8 ha p2 hs ⟨by omega, by omega⟩
 obtain ⟨v4, q4, t4, e4, -, -, p4⟩ := below_ok a q3 t3 20 ha p3 (by omega) (by omega)
 unfold S.l5Draw
 rw [e1, Option.bind_some]
 simp only
 rw [e2, Option.bind_some]
 simp only
 rw [e3, Option.bind_some]
 simp only
 rw [e4, Option.bind_some]
 simp only
 by_cases c0 : v4 = 0
 ·obtain ⟨g, q5, t5, e5, hg, p5⟩ := anyMethod_ok a q4 t4 sc ha p4 hs
  rw [if_pos (decide_eq_true c0), e5, Option.bind_some, app_eq _ _ (by simp; omega)]
  refine ⟨sc, _, f, q5, t5, rfl, by simp; omega, fun m hmm => ?_, p5⟩
  rcases List.mem_append.1 hmm with hmm | hmm
  ·exact hm m hmm
  ·rw [List.mem_singleton] at hmm; subst hmm; exact hg
 ·rw [if_neg (by simpa using c0)]
  by_cases c1 : v4 = 1
  ·obtain ⟨g, q5, t5, e5, -, -, p5⟩ := anyFacts_ok a q4 t4 sc ha p4 hs
   rw [if_pos (decide_eq_true c1), e5]
   exact ⟨sc, l, g, q5, t5, rfl, by omega, hm, p5⟩
  ·rw [if_neg (by simpa using c1)]
   by_cases c2 : v4 = 2
   ·obtain ⟨g, q5, t5, e5, p5⟩ := anySchema_ok a q4 t4 ha p4
    rw [if_pos (decide_eq_true c2), e5]
    exact ⟨g, l, f, q5, t5, rfl, by omega, hm, p5⟩
   ·rw [if_neg (by simpa using c2)]
    exact ⟨sc, l, f, q4, t4, rfl, by omega, hm, p4⟩
theorem access_loop (a : Code) (ha : a.length ≤ 1048576) (l : List Mf) (c : Code × Int × Int) (hc : c.1 = a) (r : Nat) (hr : r < l.length) (hn : l[r].2.1.length ≤ 100) :
  ∀ (n K : Nat) (p s : Int) (v : List Int) (i : Nat), i + n = l[r].2.1.length → v.length = i → n < K → Pos a p → ∃ q t m, S.l5Access_l1 l c K (r : Int) v p s (i : Int) = some ((r : Int), m, q, t) ∧ m.length ≤ 100 ∧ Pos a q := by
 intro n
 induction n with
 | zero =>
  intro K p s v i h1 h2 hK hp
  obtain ⟨K, rfl⟩ : ∃ k, K = k + 1 := ⟨K - 1, by omega⟩
  rw [S.l5Access_l1, idx_nat l hr, Option.bind_some, if_neg (by simp; omega)]
  exact ⟨_, _, _, rfl, by omega, hp⟩
 | succ n ih =>
  intro K p s v i h1 h2 hK hp
  obtain ⟨K, rfl⟩ : ∃ k, K = k + 1 := ⟨K - 1, by omega⟩
  obtain ⟨v1, q1, t1, e1, -, -, p1⟩ := below_ok a p s 4 ha hp (by omega) (by omega)
  rw [S.l5Access_l1, idx_nat l hr, Option.bind_some, if_pos (decide_eq_true (by omega)), hc, e1, Option.bind_some, app_eq _ _ (by simp; omega), Option.bind_some, w64_succ (by omega)]
  exact ih K q1 t1 _ (i + 1) (by omega) (by simp; omega) (by omega) p1
theorem access_ok (a : Code) (p s : Int) (l : List Mf) (ha : a.length ≤ 1048576) (hp : Pos a p) (hl : l.length ≤ 5) (hm : ∀ m ∈ l, m.2.1.length ≤ 100) :
  ∃ (f : Fa) (q t : Int), S.l5Access (a, p, s) l = some (f, (a, q, t)) ∧ f.2.length ≤ 100 ∧ Pos a q := by
 unfold S.l5Access
 by_cases c0 : (l.length : Int) = 0
 ·rw [if_pos (decide_eq_true c0)]
  exact ⟨(0, []), p, s, rfl, by simp, hp⟩
 ·obtain ⟨v1, q1, t1, e1, h0, h1, p1⟩ := below_ok a p s (l.length : Int) ha hp (by omega) (by omega)
  obtain ⟨r, rfl⟩ : ∃ r : Nat, v1 = r := ⟨v1.toNat, by omega⟩
  have hr : r < l.length := by omega
  obtain ⟨q2, t2, m, e2, hml, p2⟩ := access_loop a ha l (a, p, s) rfl r hr (hm _ (List.getElem_mem hr)) l[r].2.1.length FUEL q1 t1 [] 0 (by omega) rfl (by have := hm _ (List.getElem_mem hr); rw [FUEL_eq]; omega) p1
  have e2' : S.l5Access_l1 l (a, p, s) FUEL (r : Int) [] q1 t1 0 = some ((r : Int), m, q2, t2) := e2
  rw [if_neg (by simpa using c0), e1, Option.bind_some]
  simp only
  rw [e2']
  exact ⟨((r : Int), m), q2, t2, rfl, hml, p2⟩
theorem anyAccess_ok (a : Code) (p s : Int) (l : List Mf) (ha : a.length ≤ 1048576) (hp : Pos a p) (hl : l.length ≤ 5) (hm : ∀ m ∈ l, m.2.1.length ≤ 100) :
  ∃ (f : Fa) (q t : Int), S.l5AnyAccess (a, p, s) l = some (f, (a, q, t)) ∧ f.2.length ≤ 101 ∧ Pos a q := by
 obtain ⟨f, q1, t1, e1, h1, p1⟩ := access_ok a p s l ha hp hl hm
 obtain ⟨v2, q2, t2, e2, -, -, p2⟩ := below_ok a q1 t1 12 ha p1 (by omega) (by omega)
 unfold S.l5AnyAccess
 rw [e1, Option.bind_some]
 simp only
 rw [e2, Option.bind_some]
 simp only
 by_cases c0 : v2 = 0
 ·obtain ⟨v3, q3, t3, e3, -, -, p3⟩ := below_ok a q2 t2 7 ha p2 (by omega) (by omega)
  rw [if_pos (decide_eq_true c0), e3]
  exact ⟨_, q3, t3, rfl, by show f.2.length ≤ 101; omega, p3⟩
 ·rw [if_neg (by simpa using c0)]
  by_cases c1 : v2 = 1
  ·obtain ⟨v3, q3, t3, e3, -, p3⟩ := pick_ok a q2 t2 [-1, 3, 10] ha p2 (by simp) (by simp)
   rw [if_pos (decide_eq_true c1), e3, Option.bind_some, app_eq _ _ (by simp; omega)]
   exact ⟨_, q3, t3, rfl, by show (f.2 ++ [v3]).length ≤ 101; simp; omega, p3⟩
  ·rw [if_neg (by simpa using c1)]
   exact ⟨_, q2, t2, rfl, by show f.2.length ≤ 101; omega, p2⟩
theorem access26_ok (a : Code) (p s : Int) (ha : a.length ≤ 1048576) (hp : Pos a p) :
  ∃ (f : Fa) (q t : Int), S.l26Access (a, p, s) = some (f, (a, q, t)) ∧ f.2.length ≤ 101 ∧ Pos a q := by
 obtain ⟨sc, l, g, q1, t1, e1, hl, hm, p1⟩ := draw5_ok a p s ha hp
 obtain ⟨f, q2, t2, e2, hf, p2⟩ := anyAccess_ok a q1 t1 l ha p1 hl hm
 unfold S.l26Access
 rw [e1, Option.bind_some]
 simp only
 rw [e2]
 exact ⟨f, q2, t2, rfl, hf, p2⟩

theorem nil_len : List.length (str []) = 0 := rfl
theorem int_text (n : Int) (h0 : 0 ≤ n) (h1 : n ≤ 9) : ∃ r : Str, S.FormatInt n = some r ∧ List.length r = 1 := by
 unfold S.FormatInt
 by_cases hz : n = 0
 ·rw [if_pos (decide_eq_true hz)]; exact ⟨_, rfl, rfl⟩
 ·rw [if_neg (by simpa using hz)]
  have hF : FUEL = 4611686018427387902 + 1 + 1 := FUEL_eq
  have e1 : n.tmod 10 = n := by rw [Int.tmod_eq_emod_of_nonneg h0]; omega
  have e2 : w64 (n.tdiv 10) = 0 := by rw [Int.tdiv_eq_ediv_of_nonneg h0, w64_sm (by omega) (by omega)]; omega
  have hl : List.length (Str.of [u8 (w64 (48 + n))]) = 1 := rfl
  have e3 : S.FormatInt_l1 FUEL n (str []) = some (catS (Str.of [u8 (w64 (48 + n))]) (str [])) := by
   rw [hF, S.FormatInt_l1, if_pos (by simpa using hz), e1, if_neg (by simp; omega), Option.bind_some, cat_ok _ _ (by rw [hl, nil_len]; omega), Option.bind_some, e2, S.FormatInt_l1, if_neg (by simp)]
  rw [e3, Option.bind_some, if_neg (by simp; omega)]
  exact ⟨_, rfl, by rw [catS_len, hl, nil_len]⟩
theorem ints_loop (v : List Int) (hv : ∀ x ∈ v, 0 ≤ x ∧ x ≤ 9) (hl : v.length ≤ 1000) : ∀ (n K i : Nat) (t : Str), i + n = v.length → n < K → List.length t ≤ 2 * i → ∃ r : Str, S.l2List_l1 v K t (i : Int) = some r ∧ List.length r ≤ 2 * v.length := by
 intro n
 induction n with
 | zero =>
  intro K i t h1 hK ht
  obtain ⟨K, rfl⟩ : ∃ k, K = k + 1 := ⟨K - 1, by omega⟩
  obtain rfl : i = v.length := by omega
  rw [S.l2List_l1, if_neg (by simp)]
  exact ⟨t, rfl, ht⟩
 | succ n ih =>
  intro K i t h1 hK ht
  obtain ⟨K, rfl⟩ : ∃ k, K = k + 1 := ⟨K - 1, by omega⟩
  have hi : i < v.length := by omega
  obtain ⟨r, e1, e2⟩ := int_text v[i] (hv _ (List.getElem_mem hi)).1 (hv _ (List.getElem_mem hi)).2
  have hc : List.length (str [44]) = 1 := rfl
  have hx : ∃ u : Str, (if decide (0 < (i : Int)) = true then (cat t (str [44])).bind fun x5 => some x5 else some t) = some u ∧ List.length u ≤ 2 * i + 1 := by
   by_cases h0 : 0 < i
   ·rw [if_pos (decide_eq_true (by omega)), cat_ok _ _ (by rw [hc]; omega)]
    exact ⟨_, rfl, by rw [catS_len, hc]; omega⟩
   ·rw [if_neg (by simp; omega)]; exact ⟨t, rfl, by omega⟩
  obtain ⟨u, u1, u2⟩ := hx
  rw [S.l2List_l1, if_pos (decide_eq_true (by omega)), u1, Option.bind_some, idx_nat v hi, Option.bind_some, e1, Option.bind_some, cat_ok _ _ (by omega), Option.bind_some, w64_succ (by omega)]
  exact ih K (i + 1) _ (by omega) (by omega) (by rw [catS_len]; omega)
theorem ints_text (v : List Int) (hv : ∀ x ∈ v, 0 ≤ x ∧ x ≤ 9) (hl : v.length ≤ 1000) : ∃ r : Str, S.l2List v = some r ∧ List.length r ≤ 2 * v.length := by
 obtain ⟨r, h1, h2⟩ := ints_loop v hv hl v.length FUEL 0 (str []) (by omega) (by rw [FUEL_eq]; omega) (by rw [nil_len]; omega)
 have h1' : S.l2List_l1 v FUEL (str []) 0 = some r := h1
 unfold S.l2List
 rw [h1']
 exact ⟨r, rfl, h2⟩
theorem all_in {v : List Int} (h : (v.all fun x => inR x 0 9) = true) : ∀ x ∈ v, 0 ≤ x ∧ x ≤ 9 := fun x hx => inR_iff.1 (List.all_eq_true.1 h x hx)
theorem access_text (f : Fa) (hf : f.2.length ≤ 101) : ∃ r : Str, S.FormatAccess f = some r := by
 unfold S.FormatAccess
 rw [inS]
 cases h1 : inR f.1 0 4
 ·exact ⟨_, rfl⟩
 ·by_cases h2 : (3 : Int) < (f.2.length : Int)
  ·rw [decide_eq_true h2]; exact ⟨_, rfl⟩
  ·rw [decide_eq_false h2]
   rw [all_loop (S.FormatAccess_l1 f) f.2 (fun x => inR x 0 9) (str []) (by omega) (fun k => by rw [S.FormatAccess_l1, if_neg (by simp)]) (fun k i hi => by
    rw [S.FormatAccess_l1, if_pos (decide_eq_true (by omega)), idx_nat _ hi, Option.bind_some, inS, Option.bind_some, w64_succ (by omega)]
    cases inR f.2[i] 0 9 <;> rfl)]
   cases h3 : f.2.all fun x => inR x 0 9
   ·exact ⟨_, rfl⟩
   ·rw [inR_iff] at h1
    obtain ⟨r1, a1, b1⟩ := int_text f.1 (by omega) (by omega)
    obtain ⟨r2, a2, b2⟩ := ints_text f.2 (all_in h3) (by omega)
    have l1 : List.length (str [109]) = 1 := rfl
    have l2 : List.length (str [40]) = 1 := rfl
    have l3 : List.length (str [41]) = 1 := rfl
    simp only [Option.bind_some, Bool.not_true, Bool.false_eq_true, if_false, if_true]
    rw [a1, Option.bind_some, cat_ok _ _ (by omega), Option.bind_some, cat_ok _ _ (by rw [catS_len]; omega), Option.bind_some, a2, Option.bind_some, cat_ok _ _ (by rw [catS_len, catS_len]; omega), Option.bind_some, cat_ok _ _ (by rw [catS_len, catS_len, catS_len]; omega)]
    exact ⟨_, rfl⟩
theorem fact_text (f : Fa) (hf : f.2.length ≤ 101) : ∃ r : Str, S.FormatFact f = some r := by
 unfold S.FormatFact
 rw [inS, inS]
 cases h1 : inR f.1 0 2
 ·exact ⟨_, rfl⟩
 ·cases h2 : inR (f.2.length : Int) 1 3
  ·exact ⟨_, rfl⟩
  ·simp only [Option.bind_some, Bool.not_true, Bool.false_eq_true, if_false]
   rw [all_loop (S.FormatFact_l1 f) f.2 (fun x => inR x 0 9) (str []) (by omega) (fun k => by rw [S.FormatFact_l1, if_neg (by simp)]) (fun k i hi => by
    rw [S.FormatFact_l1, if_pos (decide_eq_true (by omega)), idx_nat _ hi, Option.bind_some, inS, Option.bind_some, w64_succ (by omega)]
    cases inR f.2[i] 0 9 <;> rfl)]
   cases h3 : f.2.all fun x => inR x 0 9
   ·exact ⟨_, rfl⟩
   ·rw [inR_iff] at h1
    obtain ⟨r1, a1, b1⟩ := int_text f.1 (by omega) (by omega)
    obtain ⟨r2, a2, b2⟩ := ints_text f.2 (all_in h3) (by omega)
    have l1 : List.length (str [114]) = 1 := rfl
    have l2 : List.length (str [40]) = 1 := rfl
    have l3 : List.length (str [41]) = 1 := rfl
    simp only [Option.bind_some, if_true]
    rw [a1, Option.bind_some, cat_ok _ _ (by omega), Option.bind_some, cat_ok _ _ (by rw [catS_len]; omega), Option.bind_some, a2, Option.bind_some, cat_ok _ _ (by rw [catS_len, catS_len]; omega), Option.bind_some, cat_ok _ _ (by rw [catS_len, catS_len, catS_len]; omega)]
    exact ⟨_, rfl⟩
theorem varint_text (x : Int) : ∃ r : Str, S.EncodeVarint x = some r ∧ List.length r ≤ 7 := by
 by_cases h : 0 ≤ x ∧ x ≤ 562949953421311
 ·obtain ⟨n, rfl⟩ : ∃ n : Nat, x = n := ⟨x.toNat, by omega⟩
  exact ⟨_, EncodeVarint_S n (by omega), enc_len 6 n (by simp; omega)⟩
 ·unfold S.EncodeVarint
  have hr : inR x 0 562949953421311 = false := by
   rw [Bool.eq_false_iff]; intro hh; exact h (inR_iff.1 hh)
  rw [inS, hr]
  exact ⟨_, rfl, by rw [nil_len]; omega⟩
theorem req_loop (f : Fa) (hf : f.2.length ≤ 101) : ∀ (n K i : Nat) (t : Str), i + n = f.2.length → n < K → List.length t + 7 * n ≤ 4000000 → ∃ r : Str, S.EncodeRequest_l1 f K t (i : Int) = some r ∧ List.length r ≤ List.length t + 7 * n := by
 intro n
 induction n with
 | zero =>
  intro K i t h1 hK ht
  obtain ⟨K, rfl⟩ : ∃ k, K = k + 1 := ⟨K - 1, by omega⟩
  rw [S.EncodeRequest_l1, if_neg (by simp; omega)]
  exact ⟨t, rfl, by omega⟩
 | succ n ih =>
  intro K i t h1 hK ht
  obtain ⟨K, rfl⟩ : ∃ k, K = k + 1 := ⟨K - 1, by omega⟩
  have hi : i < f.2.length := by omega
  obtain ⟨r, e1, e2⟩ := varint_text f.2[i]
  have hc := catS_len t r
  rw [S.EncodeRequest_l1, if_pos (decide_eq_true (by omega)), idx_nat _ hi, Option.bind_some, e1, Option.bind_some, cat_ok _ _ (by omega), Option.bind_some, w64_succ (by omega)]
  obtain ⟨u, u1, u2⟩ := ih K (i + 1) (catS t r) (by omega) (by omega) (by omega)
  exact ⟨u, u1, by omega⟩
theorem req_text (f : Fa) (n : Int) (hf : f.2.length ≤ 101) : ∃ r : Str, S.EncodeRequest f n = some r ∧ List.length r ≤ 1000 := by
 obtain ⟨t, e0⟩ := access_text f hf
 unfold S.EncodeRequest
 rw [show (f.1, f.2) = f from rfl, e0, Option.bind_some, inS]
 by_cases ht : t = str []
 ·rw [if_pos (decide_eq_true ht)]; exact ⟨_, rfl, by rw [nil_len]; omega⟩
 ·rw [if_neg (by simpa using ht)]
  cases inR n 1 9
  ·exact ⟨_, rfl, by rw [nil_len]; omega⟩
  ·obtain ⟨r1, a1, b1⟩ := varint_text f.1
   obtain ⟨r2, a2, b2⟩ := varint_text n
   obtain ⟨r3, a3, b3⟩ := varint_text (f.2.length : Int)
   have c1 := catS_len r1 r2
   have c2 := catS_len (catS r1 r2) r3
   obtain ⟨r4, a4, b4⟩ := req_loop f hf f.2.length FUEL 0 (catS (catS r1 r2) r3) (by omega) (by rw [FUEL_eq]; omega) (by omega)
   have a4' : S.EncodeRequest_l1 f FUEL (catS (catS r1 r2) r3) 0 = some r4 := a4
   simp only [Option.bind_some, Bool.not_true, Bool.false_eq_true, if_false]
   rw [a1, Option.bind_some, a2, Option.bind_some, cat_ok _ _ (by omega), Option.bind_some, a3, Option.bind_some, cat_ok _ _ (by omega), Option.bind_some, a4', Option.bind_some]
   exact ⟨r4, rfl, by omega⟩
theorem rep_loop2 (l : List Fa) (j : Nat) (hj : j < l.length) (hf : l[j].2.length ≤ 101) : ∀ (n K i : Nat) (t : Str), i + n = l[j].2.length → n < K → List.length t + 7 * n ≤ 4000000 → ∃ r : Str, S.EncodeReply_l2 l (j : Int) K t (i : Int) = some r ∧ List.length r ≤ List.length t + 7 * n := by
 intro n
 induction n with
 | zero =>
  intro K i t h1 hK ht
  obtain ⟨K, rfl⟩ : ∃ k, K = k + 1 := ⟨K - 1, by omega⟩
  rw [S.EncodeReply_l2, idx_nat l hj, Option.bind_some, if_neg (by simp; omega)]
  exact ⟨t, rfl, by omega⟩
 | succ n ih =>
  intro K i t h1 hK ht
  obtain ⟨K, rfl⟩ : ∃ k, K = k + 1 := ⟨K - 1, by omega⟩
  have hi : i < l[j].2.length := by omega
  obtain ⟨r, e1, e2⟩ := varint_text l[j].2[i]
  have hc := catS_len t r
  rw [S.EncodeReply_l2, idx_nat l hj, Option.bind_some, if_pos (decide_eq_true (by omega)), Option.bind_some, idx_nat _ hi, Option.bind_some, e1, Option.bind_some, cat_ok _ _ (by omega), Option.bind_some, w64_succ (by omega)]
  obtain ⟨u, u1, u2⟩ := ih K (i + 1) (catS t r) (by omega) (by omega) (by omega)
  exact ⟨u, u1, by omega⟩
theorem rep_loop (l : List Fa) (hl : l.length ≤ 100) (hf : ∀ f ∈ l, f.2.length ≤ 101) : ∀ (n K i : Nat) (t : Str), i + n = l.length → n < K → List.length t + 1000 * n ≤ 1000000 → ∃ r : Sum Str Str, S.EncodeReply_l1 l K t (i : Int) = some r ∧ (∀ x, r = .inl x → List.length x ≤ List.length t + 1000 * n) ∧ (∀ x, r = .inr x → List.length x = 0) := by
 intro n
 induction n with
 | zero =>
  intro K i t h1 hK ht
  obtain ⟨K, rfl⟩ : ∃ k, K = k + 1 := ⟨K - 1, by omega⟩
  rw [S.EncodeReply_l1, if_neg (by simp; omega)]
  exact ⟨.inl t, rfl, fun x hx => (by cases hx; omega), fun x hx => (by cases hx)⟩
 | succ n ih =>
  intro K i t h1 hK ht
  obtain ⟨K, rfl⟩ : ∃ k, K = k + 1 := ⟨K - 1, by omega⟩
  have hi : i < l.length := by omega
  have hfi := hf _ (List.getElem_mem hi)
  obtain ⟨u, e0⟩ := fact_text l[i] hfi
  rw [S.EncodeReply_l1, if_pos (decide_eq_true (by omega)), idx_nat l hi, Option.bind_some, e0, Option.bind_some]
  by_cases hu : u = str []
  ·rw [if_pos (decide_eq_true hu)]
   exact ⟨.inr (str []), rfl, fun x hx => (by cases hx), fun x hx => (by cases hx; exact nil_len)⟩
  ·obtain ⟨r1, a1, b1⟩ := varint_text l[i].1
   obtain ⟨r2, a2, b2⟩ := varint_text (l[i].2.length : Int)
   have c1 := catS_len t r1
   have c2 := catS_len (catS t r1) r2
   obtain ⟨r3, a3, b3⟩ := rep_loop2 l i hi hfi l[i].2.length FUEL 0 (catS (catS t r1) r2) (by omega) (by rw [FUEL_eq]; omega) (by omega)
   have a3' : S.EncodeReply_l2 l (i : Int) FUEL (catS (catS t r1) r2) 0 = some r3 := a3
   rw [if_neg (by simpa using hu), Option.bind_some, Option.bind_some, a1, Option.bind_some, cat_ok _ _ (by omega), Option.bind_some, a2, Option.bind_some, cat_ok _ _ (by omega), Option.bind_some, a3', Option.bind_some, w64_succ (by omega)]
   obtain ⟨r, g1, g2, g3⟩ := ih K (i + 1) r3 (by omega) (by omega) (by omega)
   exact ⟨r, g1, fun x hx => by have := g2 x hx; omega, g3⟩
theorem reply_text (l : List Fa) (hl : l.length ≤ 9) (hf : ∀ f ∈ l, f.2.length ≤ 4) : ∃ r : Str, S.EncodeReply l = some r ∧ List.length r ≤ 20000 := by
 obtain ⟨r1, a1, b1⟩ := varint_text (l.length : Int)
 obtain ⟨r, g1, g2, g3⟩ := rep_loop l (by omega) (fun f h => by have := hf f h; omega) l.length FUEL 0 r1 (by omega) (by rw [FUEL_eq]; omega) (by omega)
 have g1' : S.EncodeReply_l1 l FUEL r1 0 = some r := g1
 unfold S.EncodeReply
 rw [if_neg (by simp; omega), a1, Option.bind_some, g1']
 cases r with
 | inl x => exact ⟨x, rfl, by have := g2 x rfl; omega⟩
 | inr x => exact ⟨x, rfl, by have := g3 x rfl; omega⟩
theorem sub_text (a : Li) (i j : Nat) (h : i ≤ j) (h2 : j ≤ a.length) : ∃ r : Str, subS a (i : Int) (j : Int) = some r ∧ List.length r ≤ a.length := by
 have := sub_nat a i j h h2
 exact ⟨_, this, by show ((a.take j).drop i).length ≤ _; rw [List.length_drop, List.length_take]; omega⟩
theorem text_loop (a : Code) (ha : a.length ≤ 1048576) (c : Code × Int × Int) (hc : c.1 = a) (x : Int × (Code × Int × Int)) : ∀ (n K : Nat) (p s : Int) (l : List UInt8), n < K → l.length + n ≤ 100 → Pos a p → ∃ q t m, S.l1Text_l1 c x K p s l (n : Int) = some (q, t, m) ∧ m.length ≤ 100 ∧ Pos a q := by
 intro n
 induction n with
 | zero =>
  intro K p s l hK hl hp
  obtain ⟨K, rfl⟩ : ∃ k, K = k + 1 := ⟨K - 1, by omega⟩
  rw [S.l1Text_l1, if_neg (by simp)]
  exact ⟨p, s, l, rfl, by omega, hp⟩
 | succ n ih =>
  intro K p s l hK hl hp
  obtain ⟨K, rfl⟩ : ∃ k, K = k + 1 := ⟨K - 1, by omega⟩
  obtain ⟨v1, q1, t1, e1, -, -, p1⟩ := byte_ok a p s ha hp
  rw [S.l1Text_l1, if_pos (decide_eq_true (by omega)), hc, e1, Option.bind_some]
  simp only
  have h1 : ∃ y : Int, (if decide (x.1 = 1) = true then some (v1.tmod 2) else some v1) = some y := by split <;> exact ⟨_, rfl⟩
  obtain ⟨y, hy⟩ := h1
  have h2 : ∃ z : Int, (if decide (x.1 = 2) = true then some (w64 (97 + y.tmod 4)) else some y) = some z := by split <;> exact ⟨_, rfl⟩
  obtain ⟨z, hz⟩ := h2
  rw [hy, Option.bind_some, hz, Option.bind_some, app_eq _ _ (by simp; omega), Option.bind_some, w64_down n (by omega)]
  exact ih K q1 t1 _ (by omega) (by simp; omega) p1
theorem spoil_ok (a : Code) (p s : Int) (t : Li) (ha : a.length ≤ 1048576) (hp : Pos a p) (ht : t.length ≤ 100000) : ∃ (r : Str) (q u : Int), S.l1Spoil (a, p, s) t = some (r, (a, q, u)) ∧ List.length r ≤ 400000 := by
 have hdef : S.l1Spoil (a, p, s) t = if (decide ((List.length t : Int) = 0)) then (S.l1Text (a, p, s) 3).bind fun x1 => some (x1.1, (a, x1.2.2.1, x1.2.2.2)) else _ := rfl
 by_cases h0 : (List.length t : Int) = 0
 ·rw [hdef, if_pos (decide_eq_true h0)]
  obtain ⟨v1, q1, t1, e1, -, -, p1⟩ := below_ok a p s 4 ha hp (by omega) (by omega)
  obtain ⟨v2, q2, t2, e2, h2, h3, p2⟩ := below_ok a q1 t1 4 ha p1 (by omega) (by omega)
  obtain ⟨n, rfl⟩ : ∃ n : Nat, v2 = n := ⟨v2.toNat, by omega⟩
  obtain ⟨q3, t3, m, e3, hm, p3⟩ := text_loop a ha (a, p, s) rfl (v1, (a, q1, t1)) n FUEL q2 t2 [] (by rw [FUEL_eq]; omega) (by simp; omega) p2
  unfold S.l1Text
  rw [e1, Option.bind_some]
  simp only
  rw [w64_sm (n := 3 + 1) (by omega) (by omega), show (3 : Int) + 1 = 4 from rfl, e2, Option.bind_some]
  simp only
  rw [e3]
  exact ⟨m, q3, t3, rfl, by show m.length ≤ _; omega⟩
 ·obtain ⟨v1, q1, t1, e1, h1, h2, p1⟩ := below_big a p s (t.length : Int) ha hp (by omega)
  obtain ⟨k, rfl⟩ : ∃ k : Nat, v1 = k := ⟨v1.toNat, by omega⟩
  have hk : k < t.length := by omega
  obtain ⟨v2, q2, t2, e2, -, -, p2⟩ := below_ok a q1 t1 4 ha p1 (by omega) (by omega)
  obtain ⟨s1, f1, g1⟩ := sub_text t 0 k (by omega) (by omega)
  obtain ⟨s2, f2, g2⟩ := sub_text t (k + 1) t.length (by omega) (by omega)
  obtain ⟨s3, f3, g3⟩ := sub_text t k t.length (by omega) (by omega)
  have f1' : subS t 0 (k : Int) = some s1 := f1
  have f2' : subS t (w64 ((k : Int) + 1)) (List.length t : Int) = some s2 := by rw [w64_succ (by omega)]; exact f2
  have hid : idx (α := UInt8) t (k : Int) = some t[k] := idx_nat t hk
  have main : ∃ (r : Str) (q u : Int), ((S.l1Below (a, p, s) (List.length t : Int)).bind fun x2 =>
    (S.l1Below (a, x2.2.2.1, x2.2.2.2) 4).bind fun x3 =>
    if (decide (x3.1 = 0)) then
     (subS t 0 x2.1).bind fun x4 =>
     (subS t (w64 (x2.1 + 1)) (List.length t : Int)).bind fun x5 =>
     (cat x4 x5).bind fun x6 =>
     some (x6, (a, x3.2.2.1, x3.2.2.2))
    else
     if (decide (x3.1 = 1)) then
      (subS t 0 x2.1).bind fun x7 =>
      (subS t x2.1 (List.length t : Int)).bind fun x8 =>
      (S.l1Byte (a, x3.2.2.1, x3.2.2.2)).bind fun x9 =>
      (cat x7 (Str.of ([(u8 x9.1)]))).bind fun x10 =>
      (cat x10 x8).bind fun x11 =>
      some (x11, (a, x9.2.2.1, x9.2.2.2))
     else
      if (decide (x3.1 = 2)) then
       (subS t 0 x2.1).bind fun x12 =>
       some (x12, (a, x3.2.2.1, x3.2.2.2))
      else
       (subS t 0 x2.1).bind fun x13 =>
       (idx (α := UInt8) t x2.1).bind fun x14 =>
       (subS t (w64 (x2.1 + 1)) (List.length t : Int)).bind fun x15 =>
       (S.l1Below (a, x3.2.2.1, x3.2.2.2) 255).bind fun x16 =>
       (cat x13 (Str.of ([(u8 (bxor (w64 (UInt8.toNat x14 : Int)) (w64 (1 + x16.1))))]))).bind fun x17 =>
       (cat x17 x15).bind fun x18 =>
       some (x18, (a, x16.2.2.1, x16.2.2.2))) = some (r, (a, q, u)) ∧ List.length r ≤ 400000 := by
   rw [e1, Option.bind_some]
   simp only
   rw [e2, Option.bind_some]
   simp only
   by_cases c0 : v2 = 0
   ·rw [if_pos (decide_eq_true c0), f1', Option.bind_some, f2', Option.bind_some, cat_ok _ _ (by omega)]
    exact ⟨_, q2, t2, rfl, by rw [catS_len]; omega⟩
   ·rw [if_neg (by simpa using c0)]
    by_cases c1 : v2 = 1
    ·obtain ⟨v3, q3, t3, e3, -, -, p3⟩ := byte_ok a q2 t2 ha p2
     have hl1 : List.length (Str.of [u8 v3]) = 1 := rfl
     rw [if_pos (decide_eq_true c1), f1', Option.bind_some, f3, Option.bind_some, e3, Option.bind_some]
     simp only
     rw [cat_ok _ _ (by rw [hl1]; omega), Option.bind_some, cat_ok _ _ (by rw [catS_len, hl1]; omega)]
     exact ⟨_, q3, t3, rfl, by rw [catS_len, catS_len, hl1]; omega⟩
    ·rw [if_neg (by simpa using c1)]
     by_cases c2 : v2 = 2
     ·rw [if_pos (decide_eq_true c2), f1']
      exact ⟨_, q2, t2, rfl, by omega⟩
     ·obtain ⟨v3, q3, t3, e3, -, -, p3⟩ := below_ok a q2 t2 255 ha p2 (by omega) (by omega)
      have hl1 : List.length (Str.of [u8 (bxor (w64 (t[k].toNat : Int)) (w64 (1 + v3)))]) = 1 := rfl
      rw [if_neg (by simpa using c2), f1', Option.bind_some, hid, Option.bind_some, f2', Option.bind_some, e3, Option.bind_some]
      simp only
      rw [cat_ok _ _ (by rw [hl1]; omega), Option.bind_some, cat_ok _ _ (by rw [catS_len, hl1]; omega)]
      exact ⟨_, q3, t3, rfl, by rw [catS_len, catS_len, hl1]; omega⟩
  obtain ⟨r, q, u, m1, m2⟩ := main
  refine ⟨r, q, u, ?_, m2⟩
  rw [hdef, if_neg (by simpa using h0)]
  exact m1
def okA (f : Fa) : Bool := inR f.1 0 4 && (!decide (3 < (f.2.length : Int)) && valsOk f.2)
def okF (f : Fa) : Bool := inR f.1 0 2 && (inR (f.2.length : Int) 1 3 && valsOk f.2)
theorem not_nil {t : Str} (h : 0 < List.length t) : ¬ t = str [] := by rintro rfl; rw [nil_len] at h; omega
theorem access_S (f : Fa) (hf : f.2.length ≤ 4294967296) : ∃ t : Str, S.FormatAccess f = some t ∧ (t = str [] ↔ okA f = false) := by
 unfold S.FormatAccess okA
 rw [inS]
 cases h1 : inR f.1 0 4
 ·exact ⟨_, rfl, by simp⟩
 ·by_cases h2 : (3 : Int) < (f.2.length : Int)
  ·rw [decide_eq_true h2]; exact ⟨_, rfl, by simp⟩
  ·rw [decide_eq_false h2]
   rw [all_loop (S.FormatAccess_l1 f) f.2 (fun x => inR x 0 9) (str []) hf (fun k => by rw [S.FormatAccess_l1, if_neg (by simp)]) (fun k i hi => by
    rw [S.FormatAccess_l1, if_pos (decide_eq_true (by omega)), idx_nat _ hi, Option.bind_some, inS, Option.bind_some, w64_succ (by omega)]
    cases inR f.2[i] 0 9 <;> rfl)]
   cases h3 : f.2.all fun x => inR x 0 9
   ·exact ⟨_, rfl, by simp [valsOk, h3]⟩
   ·rw [inR_iff] at h1
    obtain ⟨r1, a1, b1⟩ := int_text f.1 (by omega) (by omega)
    obtain ⟨r2, a2, b2⟩ := ints_text f.2 (all_in h3) (by omega)
    have l1 : List.length (str [109]) = 1 := rfl
    have l2 : List.length (str [40]) = 1 := rfl
    have l3 : List.length (str [41]) = 1 := rfl
    simp only [Option.bind_some, Bool.not_true, Bool.false_eq_true, if_false, if_true]
    rw [a1, Option.bind_some, cat_ok _ _ (by omega), Option.bind_some, cat_ok _ _ (by rw [catS_len]; omega), Option.bind_some, a2, Option.bind_some, cat_ok _ _ (by rw [catS_len, catS_len]; omega), Option.bind_some, cat_ok _ _ (by rw [catS_len, catS_len, catS_len]; omega)]
    refine ⟨_, rfl, ?_⟩
    have hn : ¬ catS (catS (catS (catS (str [109]) r1) (str [40])) r2) (str [41]) = str [] := not_nil (by rw [catS_len]; omega)
    simp [valsOk, h3, hn]
theorem fact_S (f : Fa) (hf : f.2.length ≤ 4294967296) : ∃ t : Str, S.FormatFact f = some t ∧ (t = str [] ↔ okF f = false) := by
 unfold S.FormatFact okF
 rw [inS, inS]
 cases h1 : inR f.1 0 2
 ·exact ⟨_, rfl, by simp⟩
 ·cases h2 : inR (f.2.length : Int) 1 3
  ·exact ⟨_, rfl, by simp⟩
  ·simp only [Option.bind_some, Bool.not_true, Bool.false_eq_true, if_false]
   rw [all_loop (S.FormatFact_l1 f) f.2 (fun x => inR x 0 9) (str []) hf (fun k => by rw [S.FormatFact_l1, if_neg (by simp)]) (fun k i hi => by
    rw [S.FormatFact_l1, if_pos (decide_eq_true (by omega)), idx_nat _ hi, Option.bind_some, inS, Option.bind_some, w64_succ (by omega)]
    cases inR f.2[i] 0 9 <;> rfl)]
   cases h3 : f.2.all fun x => inR x 0 9
   ·exact ⟨_, rfl, by simp [valsOk, h3]⟩
   ·rw [inR_iff] at h1 h2
    obtain ⟨r1, a1, b1⟩ := int_text f.1 (by omega) (by omega)
    obtain ⟨r2, a2, b2⟩ := ints_text f.2 (all_in h3) (by omega)
    have l1 : List.length (str [114]) = 1 := rfl
    have l2 : List.length (str [40]) = 1 := rfl
    have l3 : List.length (str [41]) = 1 := rfl
    simp only [Option.bind_some, if_true]
    rw [a1, Option.bind_some, cat_ok _ _ (by omega), Option.bind_some, cat_ok _ _ (by rw [catS_len]; omega), Option.bind_some, a2, Option.bind_some, cat_ok _ _ (by rw [catS_len, catS_len]; omega), Option.bind_some, cat_ok _ _ (by rw [catS_len, catS_len, catS_len]; omega)]
    refine ⟨_, rfl, ?_⟩
    have hn : ¬ catS (catS (catS (catS (str [114]) r1) (str [40])) r2) (str [41]) = str [] := not_nil (by rw [catS_len]; omega)
    simp [valsOk, h3, hn]
def digL (n : Int) : Li := [UInt8.ofNat (48 + n.toNat)]
def dig (n : Int) : Str := digL n
theorem itoa_M (n : Int) (h0 : 0 ≤ n) (h1 : n ≤ 9) : M.FormatInt n = some (Str.of [UInt8.ofNat (48 + n.toNat)]) := by
 have e : itoaS n = some (dig n) := by
  unfold itoaS
  rw [if_pos ⟨h0, by omega⟩]
  have e2 : Lib.decDigits n.toNat = digL n := by rw [Lib.decDigits, dif_pos (by omega)]; rfl
  exact congrArg some e2
 unfold M.FormatInt Strconv.Itoa
 rw [e]; rfl
theorem lens_dig : ∀ l : List Int, Lib.lens (l.map digL) = l.length
 | [] => rfl
 | a :: l => by
  have := lens_dig l
  unfold Lib.lens at *
  rw [List.map_cons, List.map_cons, List.sum_cons, this, List.length_cons]
  have : (digL a).length = 1 := rfl
  omega
theorem join_len (l : List Int) (s : Li) (hs : s.length = 1) : (Lib.join (l.map digL) s).length ≤ 2 * l.length := by
 cases l with
 | nil => exact Nat.le_refl _
 | cons a l =>
  rw [List.map_cons, Lib.join_length, ← List.map_cons, lens_dig, hs, List.length_map, List.length_cons]; omega
theorem joined_M (l : List Int) (hl : l.length ≤ 3) (hv : ∀ x ∈ l, 0 ≤ x ∧ x ≤ 9) : ∃ r : Str, M.joined l (str [44]) = some r ∧ List.length r ≤ 6 := by
 have hj := join_len l [44] rfl
 unfold M.joined
 rw [map_loop (M.joined_l1 l) l dig (by omega) (fun k x => by rw [M.joined_l1, if_neg (by simp)]) (fun k x i hi hx => by
  rw [M.joined_l1, if_pos (decide_eq_true (by omega)), idx_nat l hi, Option.bind_some, itoa_M _ (hv _ (List.getElem_mem hi)).1 (hv _ (List.getElem_mem hi)).2, Option.bind_some, app_eq _ _ (by simp; omega), Option.bind_some, w64_succ (by omega)]; rfl), Option.bind_some]
 unfold Strings.Join
 have e : joinS (l.map dig) (str [44]) = some (Lib.join (l.map digL) [44]) := by
  unfold joinS
  exact if_pos ⟨by rw [List.length_map]; omega, Nat.le_trans hj (by omega)⟩
 rw [e]
 exact ⟨_, rfl, Nat.le_trans hj (by omega)⟩
theorem access_M (f : Fa) (hf : f.2.length ≤ 4294967296) : ∃ t : Str, M.FormatAccess f = some t ∧ (t = str [] ↔ okA f = false) := by
 unfold M.FormatAccess okA
 rw [inM]
 cases h1 : inR f.1 0 4
 ·exact ⟨_, rfl, by simp⟩
 ·by_cases h2 : (3 : Int) < (f.2.length : Int)
  ·rw [decide_eq_true h2]; exact ⟨_, rfl, by simp⟩
  ·rw [decide_eq_false h2, areValues_M _ hf]
   cases h3 : valsOk f.2
   ·exact ⟨_, rfl, by simp⟩
   ·rw [inR_iff] at h1
    obtain ⟨r2, a2, b2⟩ := joined_M f.2 (by omega) (all_in h3)
    have a1 := itoa_M f.1 (by omega) (by omega)
    have l0 : List.length (Str.of [UInt8.ofNat (48 + f.1.toNat)]) = 1 := rfl
    have l1 : List.length (str [109]) = 1 := rfl
    have l2 : List.length (str [40]) = 1 := rfl
    have l3 : List.length (str [41]) = 1 := rfl
    simp only [Option.bind_some, Bool.not_true, Bool.false_eq_true, if_false, if_true]
    rw [a1, Option.bind_some, cat_ok _ _ (by omega), Option.bind_some, cat_ok _ _ (by rw [catS_len]; omega), Option.bind_some, a2, Option.bind_some, cat_ok _ _ (by rw [catS_len, catS_len]; omega), Option.bind_some, cat_ok _ _ (by rw [catS_len, catS_len, catS_len]; omega)]
    refine ⟨_, rfl, ?_⟩
    have hn : ¬ catS (catS (catS (catS (str [109]) (Str.of [UInt8.ofNat (48 + f.1.toNat)])) (str [40])) r2) (str [41]) = str [] := not_nil (by rw [catS_len]; omega)
    exact ⟨fun h => absurd h hn, fun h => by simp at h⟩
theorem fact_M (f : Fa) (hf : f.2.length ≤ 4294967296) : ∃ t : Str, M.FormatFact f = some t ∧ (t = str [] ↔ okF f = false) := by
 unfold M.FormatFact M.isRel okF
 rw [inM, inM]
 cases h1 : inR f.1 0 2
 ·exact ⟨_, rfl, by simp⟩
 ·cases h2 : inR (f.2.length : Int) 1 3
  ·exact ⟨_, rfl, by simp⟩
  ·rw [areValues_M _ hf]
   cases h3 : valsOk f.2
   ·exact ⟨_, rfl, by simp⟩
   ·rw [inR_iff] at h1 h2
    obtain ⟨r2, a2, b2⟩ := joined_M f.2 (by omega) (all_in h3)
    have a1 := itoa_M f.1 (by omega) (by omega)
    have l0 : List.length (Str.of [UInt8.ofNat (48 + f.1.toNat)]) = 1 := rfl
    have l1 : List.length (str [114]) = 1 := rfl
    have l2 : List.length (str [40]) = 1 := rfl
    have l3 : List.length (str [41]) = 1 := rfl
    simp only [Option.bind_some, Bool.not_true, Bool.false_eq_true, if_false, if_true]
    rw [a1, Option.bind_some, cat_ok _ _ (by omega), Option.bind_some, cat_ok _ _ (by rw [catS_len]; omega), Option.bind_some, a2, Option.bind_some, cat_ok _ _ (by rw [catS_len, catS_len]; omega), Option.bind_some, cat_ok _ _ (by rw [catS_len, catS_len, catS_len]; omega)]
    refine ⟨_, rfl, ?_⟩
    have hn : ¬ catS (catS (catS (catS (str [114]) (Str.of [UInt8.ofNat (48 + f.1.toNat)])) (str [40])) r2) (str [41]) = str [] := not_nil (by rw [catS_len]; omega)
    exact ⟨fun h => absurd h hn, fun h => by simp at h⟩
def encI (n : Int) : Li := if 0 ≤ n ∧ n ≤ 562949953421311 then enc n.toNat else []
def encL (l : List Int) : Li := l.flatMap encI
theorem encI_len (n : Int) : (encI n).length ≤ 7 := by
 unfold encI
 split
 ·exact enc_len 6 _ (by simp; omega)
 ·simp
theorem encL_len : ∀ l : List Int, (encL l).length ≤ 7 * l.length
 | [] => by simp [encL]
 | a :: l => by
  have h1 := encI_len a
  have h2 := encL_len l
  have e : encL (a :: l) = encI a ++ encL l := rfl
  rw [e, List.length_append, List.length_cons]; omega
theorem ev_S (n : Int) : S.EncodeVarint n = some (str (encI n)) := by
 unfold encI
 split
 ·rename_i h
  obtain ⟨m, rfl⟩ : ∃ m : Nat, n = m := ⟨n.toNat, by omega⟩
  exact EncodeVarint_S m (by omega)
 ·rename_i h
  have hr : inR n 0 562949953421311 = false := by
   rw [Bool.eq_false_iff]; intro hh; exact h (inR_iff.1 hh)
  unfold S.EncodeVarint
  rw [inS, hr]; rfl
theorem ev_M (n : Int) : M.EncodeVarint n = some (str (encI n)) := by
 unfold encI
 split
 ·rename_i h
  obtain ⟨m, rfl⟩ : ∃ m : Nat, n = m := ⟨n.toNat, by omega⟩
  exact EncodeVarint_M m (by omega)
 ·rename_i h
  have hr : inR n 0 562949953421311 = false := by
   rw [Bool.eq_false_iff]; intro hh; exact h (inR_iff.1 hh)
  unfold M.EncodeVarint
  rw [inM, hr]; rfl
theorem varints_l_M : ∀ (l : List Int) (o : Li), o.length + 7 * l.length ≤ 1000000 → M.varints_l (str o) l = some (str (o ++ encL l))
 | [], o, h => by show some (str o) = some (str (o ++ [])); rw [List.append_nil]
 | a :: l, o, h => by
  have h1 := encI_len a
  rw [List.length_cons] at h
  have e : List.length (str o) + List.length (str (encI a)) ≤ 1000000 := by show o.length + (encI a).length ≤ _; omega
  rw [M.varints_l, ev_M, Option.bind_some, if_pos e]
  have := varints_l_M l (o ++ encI a) (by rw [List.length_append]; omega)
  rw [show o ++ encL (a :: l) = o ++ encI a ++ encL l by rw [List.append_assoc]; rfl]
  exact this
theorem varints_M (l : List Int) (h : l.length ≤ 100000) : M.varints l = some (str (encL l)) := varints_l_M l [] (by simp; omega)
theorem cat_str (a b : Li) (h : a.length + b.length ≤ 4294967296) : cat (str a) (str b) = some (str (a ++ b)) := cat_ok a b h
def reqT (f : Fa) (p : Int) : Li := if okA f && inR p 1 9 then encL (f.1 :: p :: (f.2.length : Int) :: f.2) else []
theorem okA_len {f : Fa} (h : okA f = true) : f.2.length ≤ 3 := by
 unfold okA at h
 simp only [Bool.and_eq_true, Bool.not_eq_true', decide_eq_false_iff_not] at h
 omega
theorem okF_len {f : Fa} (h : okF f = true) : 1 ≤ f.2.length ∧ f.2.length ≤ 3 := by
 unfold okF at h
 simp only [Bool.and_eq_true, inR_iff] at h
 omega
theorem req_S_loop (f : Fa) (hf : f.2.length ≤ 3) : ∀ (n K i : Nat) (t : Li), i + n = f.2.length → n < K → t.length + 7 * n ≤ 4000000 → S.EncodeRequest_l1 f K (str t) (i : Int) = some (str (t ++ encL (f.2.drop i))) := by
 intro n
 induction n with
 | zero =>
  intro K i t h1 hK ht
  obtain ⟨K, rfl⟩ : ∃ k, K = k + 1 := ⟨K - 1, by omega⟩
  rw [S.EncodeRequest_l1, if_neg (by simp; omega), List.drop_of_length_le (by omega)]
  show some (str t) = some (str (t ++ [])); rw [List.append_nil]
 | succ n ih =>
  intro K i t h1 hK ht
  obtain ⟨K, rfl⟩ : ∃ k, K = k + 1 := ⟨K - 1, by omega⟩
  have hi : i < f.2.length := by omega
  have hl := encI_len f.2[i]
  rw [S.EncodeRequest_l1, if_pos (decide_eq_true (by omega)), idx_nat _ hi, Option.bind_some, ev_S, Option.bind_some, cat_str _ _ (by omega), Option.bind_some, w64_succ (by omega), ih K (i + 1) _ (by omega) (by omega) (by rw [List.length_append]; omega), List.drop_eq_getElem_cons hi, List.append_assoc]
  rfl
theorem dec_iff {t : Str} {b : Bool} (h : t = str [] ↔ b = false) : decide (t = str []) = !b := by
 cases b
 ·exact decide_eq_true (h.2 rfl)
 ·exact decide_eq_false fun e => by have := h.1 e; cases this
theorem EncodeRequest_S (f : Fa) (p : Int) (hf : f.2.length ≤ 4294967296) : S.EncodeRequest f p = some (str (reqT f p)) := by
 obtain ⟨t, e0, ht⟩ := access_S f hf
 unfold S.EncodeRequest reqT
 rw [show (f.1, f.2) = f from rfl, e0, Option.bind_some, inS, dec_iff ht]
 cases ho : okA f
 ·rfl
 ·cases hp : inR p 1 9
  ·rfl
  ·have hl := okA_len ho
   have h1 := encI_len f.1
   have h2 := encI_len p
   have h3 := encI_len (f.2.length : Int)
   simp only [Option.bind_some, Bool.not_true, Bool.false_eq_true, if_false, Bool.and_self, if_true]
   have h4 := req_S_loop f hl f.2.length FUEL 0 (encI f.1 ++ encI p ++ encI (f.2.length : Int)) (by omega) (by rw [FUEL_eq]; omega) (by simp only [List.length_append]; omega)
   rw [ev_S, Option.bind_some, ev_S, Option.bind_some, cat_str _ _ (by omega), Option.bind_some, ev_S, Option.bind_some, cat_str _ _ (by rw [List.length_append]; omega), Option.bind_some]
   have h4' : S.EncodeRequest_l1 f FUEL (str (encI f.1 ++ encI p ++ encI (f.2.length : Int))) 0 = _ := h4
   rw [h4', Option.bind_some, List.drop_zero, List.append_assoc, List.append_assoc]
   rfl
theorem EncodeRequest_M (f : Fa) (p : Int) (hf : f.2.length ≤ 4294967296) : M.EncodeRequest f p = some (str (reqT f p)) := by
 obtain ⟨t, e0, ht⟩ := access_M f hf
 unfold M.EncodeRequest M.isPage reqT
 rw [show (f.1, f.2) = f from rfl, e0, Option.bind_some, inM, dec_iff ht]
 cases ho : okA f
 ·rfl
 ·cases hp : inR p 1 9
  ·rfl
  ·have hl := okA_len ho
   have h1 := encL_len [f.1, p, (f.2.length : Int)]
   have h2 := encL_len f.2
   simp only [List.length_cons, List.length_nil] at h1
   simp only [Option.bind_some, Bool.not_true, Bool.false_eq_true, if_false, Bool.and_self, if_true]
   rw [varints_M _ (by simp), Option.bind_some, varints_M _ (by omega), Option.bind_some, cat_str _ _ (by omega), Option.bind_some]
   show some (str (([f.1, p, (f.2.length : Int)].flatMap encI) ++ f.2.flatMap encI)) = some (str (([f.1, p, (f.2.length : Int)] ++ f.2).flatMap encI))
   rw [List.flatMap_append]
theorem reqT_len (f : Fa) (p : Int) : (reqT f p).length ≤ 1000 := by
 unfold reqT
 split
 ·rename_i h
  have h1 := okA_len (Bool.and_eq_true_iff.1 h).1
  have h2 := encL_len (f.1 :: p :: (f.2.length : Int) :: f.2)
  simp only [List.length_cons] at h2
  omega
 ·simp
def repF (f : Fa) : Li := encL (f.1 :: (f.2.length : Int) :: f.2)
def repB (l : List Fa) : Li := encI (l.length : Int) ++ l.flatMap repF
def repT (l : List Fa) : Li := if l.length ≤ 24 ∧ (l.all okF) = true then repB l else []
theorem repF_len {f : Fa} (h : okF f = true) : (repF f).length ≤ 35 := by
 have := okF_len h
 have h2 := encL_len (f.1 :: (f.2.length : Int) :: f.2)
 unfold repF
 simp only [List.length_cons] at h2
 omega
theorem rep_S2 (l : List Fa) (j : Nat) (hj : j < l.length) (hf : l[j].2.length ≤ 3) : ∀ (n K i : Nat) (t : Li), i + n = l[j].2.length → n < K → t.length + 7 * n ≤ 4000000 → S.EncodeReply_l2 l (j : Int) K (str t) (i : Int) = some (str (t ++ encL (l[j].2.drop i))) := by
 intro n
 induction n with
 | zero =>
  intro K i t h1 hK ht
  obtain ⟨K, rfl⟩ : ∃ k, K = k + 1 := ⟨K - 1, by omega⟩
  rw [S.EncodeReply_l2, idx_nat l hj, Option.bind_some, if_neg (by simp; omega), List.drop_of_length_le (by omega)]
  show some (str t) = some (str (t ++ [])); rw [List.append_nil]
 | succ n ih =>
  intro K i t h1 hK ht
  obtain ⟨K, rfl⟩ : ∃ k, K = k + 1 := ⟨K - 1, by omega⟩
  have hi : i < l[j].2.length := by omega
  have hl := encI_len l[j].2[i]
  rw [S.EncodeReply_l2, idx_nat l hj, Option.bind_some, if_pos (decide_eq_true (by omega)), Option.bind_some, idx_nat _ hi, Option.bind_some, ev_S, Option.bind_some, cat_str _ _ (by omega), Option.bind_some, w64_succ (by omega), ih K (i + 1) _ (by omega) (by omega) (by rw [List.length_append]; omega), List.drop_eq_getElem_cons hi, List.append_assoc]
  rfl
theorem rep_S1 (l : List Fa) (hl : l.length ≤ 24) (hf : ∀ f ∈ l, f.2.length ≤ 4294967296) : ∀ (n K i : Nat) (t : Li), i + n = l.length → n < K → t.length + 35 * n ≤ 1000000 → S.EncodeReply_l1 l K (str t) (i : Int) = some (if (l.drop i).all okF then .inl (str (t ++ (l.drop i).flatMap repF)) else .inr (str [])) := by
 intro n
 induction n with
 | zero =>
  intro K i t h1 hK ht
  obtain ⟨K, rfl⟩ : ∃ k, K = k + 1 := ⟨K - 1, by omega⟩
  rw [S.EncodeReply_l1, if_neg (by simp; omega), List.drop_of_length_le (by omega)]
  show some (Sum.inl (str t)) = some (Sum.inl (str (t ++ []))); rw [List.append_nil]
 | succ n ih =>
  intro K i t h1 hK ht
  obtain ⟨K, rfl⟩ : ∃ k, K = k + 1 := ⟨K - 1, by omega⟩
  have hi : i < l.length := by omega
  obtain ⟨u, e0, hu⟩ := fact_S l[i] (hf _ (List.getElem_mem hi))
  rw [S.EncodeReply_l1, if_pos (decide_eq_true (by omega)), idx_nat l hi, Option.bind_some, e0, Option.bind_some, dec_iff hu, List.drop_eq_getElem_cons hi, List.all_cons, List.flatMap_cons]
  cases ho : okF l[i]
  ·rfl
  ·have h3 := okF_len ho
   have h4 := repF_len ho
   have h5 := encI_len l[i].1
   have h6 := encI_len (l[i].2.length : Int)
   have h7 := rep_S2 l i hi h3.2 l[i].2.length FUEL 0 (t ++ encI l[i].1 ++ encI (l[i].2.length : Int)) (by omega) (by rw [FUEL_eq]; omega) (by simp only [List.length_append]; omega)
   have h7' : S.EncodeReply_l2 l (i : Int) FUEL (str (t ++ encI l[i].1 ++ encI (l[i].2.length : Int))) 0 = _ := h7
   simp only [Bool.not_true, Bool.false_eq_true, if_false, Option.bind_some, Bool.true_and]
   rw [ev_S, Option.bind_some, cat_str _ _ (by omega), Option.bind_some, ev_S, Option.bind_some, cat_str _ _ (by rw [List.length_append]; omega), Option.bind_some, h7', Option.bind_some, w64_succ (by omega), List.drop_zero]
   have e : t ++ encI l[i].1 ++ encI (l[i].2.length : Int) ++ encL l[i].2 = t ++ repF l[i] := by rw [List.append_assoc, List.append_assoc]; rfl
   rw [e, ih K (i + 1) _ (by omega) (by omega) (by rw [List.length_append]; omega), List.append_assoc]
theorem rep_M1 (l : List Fa) (hl : l.length ≤ 24) (hf : ∀ f ∈ l, f.2.length ≤ 4294967296) : ∀ (n K i : Nat) (t : Li), i + n = l.length → n < K → t.length + 35 * n ≤ 1000000 → M.EncodeReply_l1 l K (str t) (i : Int) = some (if (l.drop i).all okF then .inl (str (t ++ (l.drop i).flatMap repF)) else .inr (str [])) := by
 intro n
 induction n with
 | zero =>
  intro K i t h1 hK ht
  obtain ⟨K, rfl⟩ : ∃ k, K = k + 1 := ⟨K - 1, by omega⟩
  rw [M.EncodeReply_l1, if_neg (by simp; omega), List.drop_of_length_le (by omega)]
  show some (Sum.inl (str t)) = some (Sum.inl (str (t ++ []))); rw [List.append_nil]
 | succ n ih =>
  intro K i t h1 hK ht
  obtain ⟨K, rfl⟩ : ∃ k, K = k + 1 := ⟨K - 1, by omega⟩
  have hi : i < l.length := by omega
  obtain ⟨u, e0, hu⟩ := fact_M l[i] (hf _ (List.getElem_mem hi))
  have e0' : M.FormatFact (l[i].1, l[i].2) = some u := e0
  rw [M.EncodeReply_l1, if_pos (decide_eq_true (by omega)), idx_nat l hi, Option.bind_some, e0', Option.bind_some, dec_iff hu, List.drop_eq_getElem_cons hi, List.all_cons, List.flatMap_cons]
  cases ho : okF l[i]
  ·rfl
  ·have h3 := okF_len ho
   have h4 := repF_len ho
   have h5 := encL_len [l[i].1, (l[i].2.length : Int)]
   have h6 := encL_len l[i].2
   simp only [List.length_cons, List.length_nil] at h5
   simp only [Bool.not_true, Bool.false_eq_true, if_false, Option.bind_some, Bool.true_and]
   have e : encL [l[i].1, (l[i].2.length : Int)] ++ encL l[i].2 = repF l[i] := by
    show ([l[i].1, (l[i].2.length : Int)].flatMap encI) ++ l[i].2.flatMap encI = (([l[i].1, (l[i].2.length : Int)] ++ l[i].2).flatMap encI)
    rw [List.flatMap_append]
   rw [varints_M _ (by simp), Option.bind_some, varints_M _ (by omega), Option.bind_some, cat_str _ _ (by omega), Option.bind_some, e, cat_str _ _ (by omega), Option.bind_some, w64_succ (by omega)]
   rw [ih K (i + 1) _ (by omega) (by omega) (by rw [List.length_append]; omega), List.append_assoc]
theorem EncodeReply_S (l : List Fa) (hf : ∀ f ∈ l, f.2.length ≤ 4294967296) : S.EncodeReply l = some (str (repT l)) := by
 unfold S.EncodeReply repT
 by_cases hl : l.length ≤ 24
 ·have h1 := encI_len (l.length : Int)
  rw [if_neg (by simp; omega), ev_S, Option.bind_some]
  have h2 := rep_S1 l hl hf l.length FUEL 0 (encI (l.length : Int)) (by omega) (by rw [FUEL_eq]; omega) (by omega)
  have h2' : S.EncodeReply_l1 l FUEL (str (encI (l.length : Int))) 0 = _ := h2
  rw [h2', Option.bind_some, List.drop_zero]
  cases h3 : l.all okF
  ·rw [if_neg (by simp), if_neg (by simp)]
  ·rw [if_pos rfl, if_pos ⟨hl, rfl⟩]; rfl
 ·rw [if_pos (by simp; omega), if_neg (by omega)]
theorem EncodeReply_M (l : List Fa) (hf : ∀ f ∈ l, f.2.length ≤ 4294967296) : M.EncodeReply l = some (str (repT l)) := by
 unfold M.EncodeReply repT
 by_cases hl : l.length ≤ 24
 ·have h1 := encI_len (l.length : Int)
  have e : encL [(l.length : Int)] = encI (l.length : Int) := List.append_nil _
  rw [if_neg (by simp; omega), varints_M _ (by simp), Option.bind_some, e]
  have h2 := rep_M1 l hl hf l.length FUEL 0 (encI (l.length : Int)) (by omega) (by rw [FUEL_eq]; omega) (by omega)
  have h2' : M.EncodeReply_l1 l FUEL (str (encI (l.length : Int))) 0 = _ := h2
  rw [h2', Option.bind_some, List.drop_zero]
  cases h3 : l.all okF
  ·rw [if_neg (by simp), if_neg (by simp)]
  ·rw [if_pos rfl, if_pos ⟨hl, rfl⟩]; rfl
 ·rw [if_pos (by simp; omega), if_neg (by omega)]
theorem flat_len {α : Type} (g : α → Li) (m : Nat) : ∀ l : List α, (∀ a ∈ l, (g a).length ≤ m) → (l.flatMap g).length ≤ m * l.length
 | [], _ => by simp
 | a :: l, h => by
  have h1 := h a (by simp)
  have h2 := flat_len g m l (fun b hb => h b (by simp [hb]))
  rw [List.flatMap_cons, List.length_append, List.length_cons, Nat.mul_add]; omega
theorem repT_len (l : List Fa) : (repT l).length ≤ 1000 := by
 unfold repT
 split
 ·rename_i h
  have h1 := encI_len (l.length : Int)
  have h2 := flat_len repF 35 l (fun f hf => repF_len (List.all_eq_true.1 h.2 f hf))
  unfold repB
  rw [List.length_append]; omega
 ·simp
theorem vv_enc : ∀ (k n : Nat), n ≤ k → vv (enc n) = n := by
 intro k
 induction k with
 | zero =>
  intro n h
  obtain rfl : n = 0 := by omega
  rw [enc, dif_pos (by omega)]; rfl
 | succ k ih =>
  intro n h
  rw [enc]
  split
  ·rename_i h1; simp [vv]; omega
  ·rename_i h1
   have e : (UInt8.ofNat (128 + n % 128)).toNat = 128 + n % 128 := by simp; omega
   rw [vv, ih (n / 128) (by omega), e]; omega
theorem okG_take {l : Li} {f : Bool} (h : okG f l = true) {j : Nat} (hj : j + 1 < l.length) : okG true (l.take (j + 1)) = false := by
 obtain ⟨l0, b, rfl⟩ : ∃ l0 b, l = l0 ++ [b] := ⟨l.dropLast, l.getLast (by intro e; rw [e] at hj; simp at hj), (List.dropLast_concat_getLast _).symm⟩
 rw [okG_snoc, Bool.and_eq_true] at h
 have hl : j < l0.length := by rw [List.length_append] at hj; simp at hj; omega
 rw [List.take_append_of_le_length (by omega), take_snoc l0 hl, okG_snoc]
 have := of_decide_eq_true (List.all_eq_true.1 h.1 l0[j] (List.getElem_mem hl))
 have e : decide (l0[j].toNat < 128) = false := decide_eq_false (by omega)
 rw [e]; simp
def vI (x : Int) : Prop := 0 ≤ x ∧ x ≤ 562949953421311
theorem dcd_enc (n : Nat) (h : n < 562949953421312) (t : Li) : dcd (enc n ++ t) = ((n : Int), (((enc n).length : Nat) : Int)) ∧ 1 ≤ (enc n).length := by
 have hok := enc_ok n n true (Nat.le_refl _) (.inl rfl)
 have hl : (enc n).length ≤ 7 := enc_len 6 n (by simp; omega)
 have h1 : 1 ≤ (enc n).length := by
  cases he : enc n with
  | nil => rw [he] at hok; simp [okG] at hok
  | cons a l => simp
 obtain ⟨i, hi⟩ : ∃ i, (enc n).length = i + 1 := ⟨(enc n).length - 1, by omega⟩
 have e : (enc n ++ t).take (i + 1) = enc n := by rw [← hi]; exact List.take_left
 refine ⟨?_, h1⟩
 rw [dcd_find (enc n ++ t) (i := i) (by rw [List.length_append]; omega) (by rw [e]; exact hok) (fun j hj => by
  rw [List.take_append_of_le_length (by omega)]
  exact okG_take hok (by omega)), e, vv_enc n n (Nat.le_refl _), hi]
theorem encI_nat (n : Nat) (h : n < 562949953421312) : encI (n : Int) = enc n := by
 unfold encI; rw [if_pos ⟨by omega, by omega⟩]; rfl
theorem dcd_encI {x : Int} (h : vI x) (t : Li) : dcd (encI x ++ t) = (x, (((encI x).length : Nat) : Int)) ∧ 1 ≤ (encI x).length := by
 obtain ⟨n, rfl⟩ : ∃ n : Nat, x = n := ⟨x.toNat, by have := h.1; omega⟩
 have h2 : n < 562949953421312 := by have := h.2; omega
 rw [encI_nat n h2]
 exact dcd_enc n h2 t
theorem dcd_case (s : Li) : dcd s = (0, 0) ∨ ∃ x t, vI x ∧ s = encI x ++ t := by
 rcases dcd_r s with h | ⟨n, k, h, h1, h2, h3, h4⟩
 ·exact .inl h
 ·obtain ⟨g1, g2, g3, g4⟩ := dcd_at h h2
  refine .inr ⟨n, s.drop k, ⟨by omega, by omega⟩, ?_⟩
  rw [encI_nat n h1, g2, ok_enc _ _ g3, List.take_append_drop]
theorem encI_pre {x y : Int} (hx : vI x) (hy : vI y) {t u : Li} (h : encI x ++ t = encI y ++ u) : x = y ∧ t = u := by
 have h1 := (dcd_encI hx t).1
 have h2 := (dcd_encI hy u).1
 rw [h] at h1
 have e := (h1.symm.trans h2)
 obtain rfl : x = y := congrArg (·.1) e
 exact ⟨rfl, List.append_cancel_left h⟩
theorem encL_cons (x : Int) (l : List Int) : encL (x :: l) = encI x ++ encL l := rfl
theorem encL_pre : ∀ {l l' : List Int} {t u : Li}, l.length = l'.length → (∀ x ∈ l, vI x) → (∀ x ∈ l', vI x) → encL l ++ t = encL l' ++ u → l = l' ∧ t = u
 | [], [], _, _, _, _, _, h => ⟨rfl, h⟩
 | [], _ :: _, _, _, h, _, _, _ => by simp at h
 | _ :: _, [], _, _, h, _, _, _ => by simp at h
 | x :: l, y :: l', t, u, hl, h1, h2, h => by
  rw [encL_cons, encL_cons, List.append_assoc, List.append_assoc] at h
  obtain ⟨rfl, h3⟩ := encI_pre (h1 x (by simp)) (h2 y (by simp)) h
  obtain ⟨rfl, h4⟩ := encL_pre (by simpa using hl) (fun z hz => h1 z (by simp [hz])) (fun z hz => h2 z (by simp [hz])) h3
  exact ⟨rfl, h4⟩
theorem encL_inj : ∀ {l l' : List Int}, (∀ x ∈ l, vI x) → (∀ x ∈ l', vI x) → encL l = encL l' → l = l'
 | [], [], _, _, _ => rfl
 | [], y :: l', _, h2, h => by
  have h3 := (dcd_encI (h2 y (by simp)) (encL l')).2
  rw [encL_cons] at h
  have := congrArg List.length h
  rw [List.length_append] at this
  have e : (encL []).length = 0 := rfl
  omega
 | x :: l, [], h1, _, h => by
  have h3 := (dcd_encI (h1 x (by simp)) (encL l)).2
  rw [encL_cons] at h
  have := congrArg List.length h
  rw [List.length_append] at this
  have e : (encL []).length = 0 := rfl
  omega
 | x :: l, y :: l', h1, h2, h => by
  rw [encL_cons, encL_cons] at h
  obtain ⟨rfl, h3⟩ := encI_pre (h1 x (by simp)) (h2 y (by simp)) h
  rw [encL_inj (fun z hz => h1 z (by simp [hz])) (fun z hz => h2 z (by simp [hz])) h3]
theorem sub_drop (t : Li) (k : Nat) (h : k ≤ t.length) : subS (str t) (k : Int) (List.length (str t) : Int) = some (str (t.drop k)) := by
 have := sub_nat t k t.length h (Nat.le_refl _)
 rw [List.take_length] at this
 exact this
theorem dv_S (t : Li) (h : t.length ≤ 1048576) : S.DecodeVarint (str t) = some (dcd t) := DecodeVarint_S t h
theorem dv_M (t : Li) (h : t.length ≤ 1048576) : M.DecodeVarint (str t) = some (dcd t) := DecodeVarint_M t h
theorem drop_app {x : Int} {t : Li} : (encI x ++ t).drop (encI x).length = t := List.drop_left
theorem nums_S : ∀ (K : Nat) (t : Li) (acc : List Int), t.length < K → t.length ≤ 1048576 → acc.length + t.length ≤ 2000000 →
  (∃ l : List Int, (∀ x ∈ l, vI x) ∧ t = encL l ∧ S.l26Numbers_l1 K (str t) acc = some (.inl (acc ++ l))) ∨
  ((∀ l : List Int, (∀ x ∈ l, vI x) → t ≠ encL l) ∧ S.l26Numbers_l1 K (str t) acc = some (.inr ([], false))) := by
 intro K
 induction K with
 | zero => intro t acc h; omega
 | succ K ih =>
  intro t acc h1 h2 h3
  rw [S.l26Numbers_l1]
  by_cases h0 : t = []
  ·subst h0
   refine .inl ⟨[], by simp, rfl, ?_⟩
   rw [if_neg (by simp [str]), List.append_nil]
  ·have hpos : 0 < t.length := List.length_pos_iff.2 h0
   rw [if_pos (decide_eq_true (by show (0 : Int) < (t.length : Int); omega)), dv_S t h2, Option.bind_some]
   rcases dcd_case t with hd | ⟨x, u, hx, rfl⟩
   ·refine .inr ⟨fun l hl e => ?_, by rw [hd]; rfl⟩
    cases l with
    | nil => exact h0 e
    | cons y l =>
     have h5 := dcd_encI (hl y (by simp)) (encL l)
     rw [← encL_cons, ← e, hd] at h5
     have := congrArg (·.2) h5.1
     simp only at this
     omega
   ·obtain ⟨h5, h6⟩ := dcd_encI hx u
    have hlen : (encI x ++ u).length = (encI x).length + u.length := List.length_append
    rw [h5, if_neg (by simp only [decide_eq_true_eq]; omega), app_eq _ _ (by simp; omega), Option.bind_some, sub_drop _ _ (by omega), Option.bind_some, drop_app]
    rcases ih u (acc ++ [x]) (by omega) (by omega) (by simp; omega) with ⟨l, h7, h8, h9⟩ | ⟨h7, h8⟩
    ·refine .inl ⟨x :: l, ?_, by rw [encL_cons, h8], ?_⟩
     ·intro z hz
      rcases List.mem_cons.1 hz with rfl | hz
      ·exact hx
      ·exact h7 z hz
     ·rw [h9, List.append_assoc]; rfl
    ·refine .inr ⟨fun l hl e => ?_, h8⟩
     cases l with
     | nil => exact h0 e
     | cons y l =>
      rw [encL_cons] at e
      obtain ⟨rfl, h9⟩ := encI_pre hx (hl y (by simp)) e
      exact h7 l (fun z hz => hl z (by simp [hz])) h9
theorem numbers_S (t : Li) (h : t.length ≤ 1048576) : (∃ l : List Int, (∀ x ∈ l, vI x) ∧ t = encL l ∧ l.length ≤ t.length ∧ S.l26Numbers (str t) = some (l, true)) ∨
  ((∀ l : List Int, (∀ x ∈ l, vI x) → t ≠ encL l) ∧ S.l26Numbers (str t) = some ([], false)) := by
 unfold S.l26Numbers
 rcases nums_S FUEL t [] (by rw [FUEL_eq]; omega) h (by simp; omega) with ⟨l, h1, h2, h3⟩ | ⟨h1, h2⟩
 ·refine .inl ⟨l, h1, h2, ?_, by rw [h3]; rfl⟩
  rw [h2]
  clear h2 h3 h
  induction l with
  | nil => simp
  | cons x l ih =>
   have h4 := (dcd_encI (h1 x (by simp)) []).2
   have h5 := ih (fun z hz => h1 z (by simp [hz]))
   rw [encL_cons, List.length_append, List.length_cons]; omega
 ·exact .inr ⟨h1, by rw [h2]; rfl⟩
def reqOK (t : Li) (f : Fa) (p : Int) : Prop := okA f = true ∧ inR p 1 9 = true ∧ t = encL (f.1 :: p :: (f.2.length : Int) :: f.2)
theorem okA_valid {f : Fa} (h : okA f = true) : vI f.1 ∧ ∀ x ∈ f.2, vI x := by
 unfold okA at h
 simp only [Bool.and_eq_true, inR_iff] at h
 refine ⟨⟨by omega, by omega⟩, fun x hx => ?_⟩
 have := all_in h.2.2 x hx
 exact ⟨by omega, by omega⟩
theorem req_valid {f : Fa} {p : Int} (h : okA f = true) (hp : inR p 1 9 = true) : ∀ x ∈ f.1 :: p :: (f.2.length : Int) :: f.2, vI x := by
 have h1 := okA_valid h
 have h2 := okA_len h
 rw [inR_iff] at hp
 intro x hx
 simp only [List.mem_cons] at hx
 rcases hx with rfl | rfl | rfl | hx
 ·exact h1.1
 ·exact ⟨by omega, by omega⟩
 ·exact ⟨by omega, by omega⟩
 ·exact h1.2 x hx
theorem reqOK_one {t : Li} {f g : Fa} {p q : Int} (h : reqOK t f p) (k : reqOK t g q) : f = g ∧ p = q := by
 have e := encL_inj (req_valid h.1 h.2.1) (req_valid k.1 k.2.1) (h.2.2.symm.trans k.2.2)
 simp only [List.cons.injEq] at e
 exact ⟨Prod.ext e.1 e.2.2.2, e.2.1⟩
theorem reqT_ok {t : Li} {f : Fa} {p : Int} (h0 : t ≠ []) : reqT f p = t ↔ reqOK t f p := by
 unfold reqT reqOK
 constructor
 ·intro h
  split at h
  ·rename_i hc
   exact ⟨(Bool.and_eq_true_iff.1 hc).1, (Bool.and_eq_true_iff.1 hc).2, h.symm⟩
  ·exact absurd h.symm h0
 ·rintro ⟨h1, h2, h3⟩
  simp only [h1, h2, Bool.and_self, if_true]
  exact h3.symm
def isReq (t : Li) (r : Fa × Int × Bool) : Prop := (∃ f p, reqOK t f p ∧ r = (f, p, true)) ∨ ((∀ f p, ¬ reqOK t f p) ∧ r = ((0, []), 0, false))
theorem isReq_one {t : Li} {r q : Fa × Int × Bool} (h : isReq t r) (k : isReq t q) : r = q := by
 rcases h with ⟨f, p, h, rfl⟩ | ⟨h, rfl⟩ <;> rcases k with ⟨g, o, k, rfl⟩ | ⟨k, rfl⟩
 ·obtain ⟨rfl, rfl⟩ := reqOK_one h k; rfl
 ·exact absurd h (k f p)
 ·exact absurd k (h g o)
 ·rfl
theorem str_ne (a b : Li) : (!decide (str a = str b)) = !decide (a = b) := rfl
theorem DecodeRequest_S (t : Li) (ht : t.length ≤ 1048576) : ∃ r, S.DecodeRequest (str t) = some r ∧ isReq t r := by
 unfold S.DecodeRequest
 rcases numbers_S t ht with ⟨l, h1, h2, h3, h4⟩ | ⟨h1, h2⟩
 ·rw [h4, Option.bind_some]
  have bad (hb : ∀ f p, ¬ reqOK t f p) : ∃ r : Fa × Int × Bool, (some ((0, []), 0, false) : Option (Fa × Int × Bool)) = some r ∧ isReq t r := ⟨_, rfl, .inr ⟨hb, rfl⟩⟩
  have mt : ∀ (f : Fa) (p : Int), reqOK t f p → l = f.1 :: p :: (f.2.length : Int) :: f.2 := fun f p h => encL_inj h1 (req_valid h.1 h.2.1) (h2.symm.trans h.2.2)
  match l, h1, h2, h3, mt with
  | [], _, _, _, mt => exact bad fun f p h => by cases mt f p h
  | [a], _, _, _, mt => exact bad fun f p h => by cases mt f p h
  | [a, b], _, _, _, mt => exact bad fun f p h => by cases mt f p h
  | a :: b :: c :: v, h1, h2, h3, mt =>
   have hc := h1 c (by simp)
   have hc1 := hc.1
   have hc2 := hc.2
   have i0 : idx (a :: b :: c :: v) 0 = some a := rfl
   have i1 : idx (a :: b :: c :: v) 1 = some b := rfl
   have i2 : idx (a :: b :: c :: v) 2 = some c := rfl
   have hlv : (a :: b :: c :: v).length = v.length + 3 := rfl
   have hv : v.length ≤ 1048576 := by omega
   simp only [Bool.not_true, Bool.false_eq_true, if_false]
   rw [if_neg (by rw [hlv]; simp; omega), i2, Option.bind_some, Option.bind_some, hlv, w64_id (by omega) (by omega)]
   by_cases he : c = (v.length : Int)
   ·have e1 : sub (a :: b :: c :: v) 3 ((v.length + 3 : Nat) : Int) = some v := by
     have := sub_nat (a :: b :: c :: v) 3 (v.length + 3) (by omega) (by rw [hlv]; exact Nat.le_refl _)
     rw [← hlv, List.take_length] at this
     exact this
    rw [if_neg (by simp; omega), i0, i1, Option.bind_some, e1, Option.bind_some, app_eq _ _ (by simp; omega)]
    simp only [Option.bind_some, List.nil_append]
    rw [EncodeRequest_S (a, v) b (by show v.length ≤ _; omega), Option.bind_some, str_ne]
    have hne : t ≠ [] := by
     intro e
     have h5 := (dcd_encI (h1 a (by simp)) []).2
     rw [h2, encL_cons] at e
     have := congrArg List.length e
     rw [List.length_append, List.length_nil] at this
     omega
    by_cases hq : reqT (a, v) b = t
    ·rw [if_neg (by simp [hq])]
     exact ⟨_, rfl, .inl ⟨(a, v), b, (reqT_ok hne).1 hq, rfl⟩⟩
    ·rw [if_pos (by simp [hq])]
     refine bad fun f p h => hq ?_
     have := mt f p h
     simp only [List.cons.injEq] at this
     obtain ⟨e2, e3, e4, e5⟩ := this
     have e6 : (a, v) = f := Prod.ext e2 e5
     rw [e6, e3]
     exact (reqT_ok hne).2 h
   ·rw [if_pos (by simp; omega)]
    refine bad fun f p h => he ?_
    have := mt f p h
    simp only [List.cons.injEq] at this
    obtain ⟨e2, e3, e4, e5⟩ := this
    rw [e4, e5]
 ·rw [h2, Option.bind_some]
  exact ⟨_, rfl, .inr ⟨fun f p h => h1 _ (req_valid h.1 h.2.1) h.2.2, rfl⟩⟩
theorem next_ok {x : Int} (h : vI x) (t : Li) (hl : (encI x ++ t).length ≤ 1048576) : M.varintReader_next (str (encI x ++ t), false) = some (x, (str t, false)) := by
 obtain ⟨h1, h2⟩ := dcd_encI h t
 have hlen : (encI x ++ t).length = (encI x).length + t.length := List.length_append
 unfold M.varintReader_next
 simp only
 rw [dv_M _ hl, Option.bind_some, h1]
 simp only [Bool.false_eq_true, if_false, Option.bind_some]
 rw [sub_drop _ _ (by omega), Option.bind_some, drop_app, decide_eq_false (by omega)]
theorem next_bad {t : Li} (h : dcd t = (0, 0)) (hl : t.length ≤ 1048576) : M.varintReader_next (str t, false) = some (0, (str t, true)) := by
 unfold M.varintReader_next
 simp only
 rw [dv_M _ hl, Option.bind_some, h]
 simp only [Bool.false_eq_true, if_false, Option.bind_some]
 have := sub_drop t 0 (by omega)
 rw [List.drop_zero] at this
 have this' : subS (str t) 0 (List.length (str t) : Int) = some (str t) := this
 rw [this', Option.bind_some]; rfl
theorem list_M : ∀ (k K i : Nat) (t : Li) (acc : List Int), k + 1 < K → t.length ≤ 1048576 → i + k ≤ 1000 → acc.length ≤ i →
  ∃ l t' b, M.varintReader_list_l1 ((i + k : Nat) : Int) K (str t) false acc (i : Int) = some (str t', b, acc ++ l) ∧ t'.length ≤ t.length ∧ l.length ≤ k ∧
   ((b = false ∧ l.length = k ∧ (∀ x ∈ l, vI x) ∧ t = encL l ++ t') ∨ (b = true ∧ ∀ (l' : List Int) (u : Li), l'.length = k → (∀ x ∈ l', vI x) → t ≠ encL l' ++ u)) := by
 intro k
 induction k with
 | zero =>
  intro K i t acc hK ht hi ha
  obtain ⟨K, rfl⟩ : ∃ k, K = k + 1 := ⟨K - 1, by omega⟩
  rw [M.varintReader_list_l1, if_neg (by simp)]
  exact ⟨[], t, false, by rw [List.append_nil], Nat.le_refl _, Nat.le_refl _, .inl ⟨rfl, rfl, by simp, rfl⟩⟩
 | succ k ih =>
  intro K i t acc hK ht hi ha
  obtain ⟨K, rfl⟩ : ∃ k, K = k + 1 := ⟨K - 1, by omega⟩
  rw [M.varintReader_list_l1, if_pos (decide_eq_true (by omega)), if_neg (by simp)]
  rcases dcd_case t with hd | ⟨x, u, hx, rfl⟩
  ·obtain ⟨K, rfl⟩ : ∃ k, K = k + 1 := ⟨K - 1, by omega⟩
   rw [next_bad hd ht, Option.bind_some, app_eq _ _ (by simp; omega), Option.bind_some, M.varintReader_list_l1]
   refine ⟨[0], t, true, by simp only [if_true, ite_self], Nat.le_refl _, by simp, .inr ⟨rfl, fun l' u hl hv e => ?_⟩⟩
   cases l' with
   | nil => simp at hl
   | cons y l' =>
    have h5 := dcd_encI (hv y (by simp)) (encL l' ++ u)
    rw [← List.append_assoc, ← encL_cons, ← e, hd] at h5
    have := congrArg (·.2) h5.1
    simp only at this
    omega
  ·have hlen : (encI x ++ u).length = (encI x).length + u.length := List.length_append
   rw [next_ok hx u ht, Option.bind_some, app_eq _ _ (by simp; omega), Option.bind_some, w64_succ (by omega)]
   obtain ⟨l, t', b, h1, h2, h3, h4⟩ := ih K (i + 1) u (acc ++ [x]) (by omega) (by omega) (by omega) (by simp; omega)
   rw [show i + (k + 1) = i + 1 + k by omega]
   refine ⟨x :: l, t', b, by rw [h1, List.append_assoc]; rfl, by omega, by simp; omega, ?_⟩
   rcases h4 with ⟨rfl, h5, h6, rfl⟩ | ⟨rfl, h5⟩
   ·refine .inl ⟨rfl, by simp; omega, fun z hz => ?_, by rw [encL_cons, List.append_assoc]⟩
    rcases List.mem_cons.1 hz with rfl | hz
    ·exact hx
    ·exact h6 z hz
   ·refine .inr ⟨rfl, fun l' v hl hv e => ?_⟩
    cases l' with
    | nil => simp at hl
    | cons y l' =>
     rw [encL_cons, List.append_assoc] at e
     obtain ⟨rfl, h7⟩ := encI_pre hx (hv y (by simp)) e
     exact h5 l' v (by simpa using hl) (fun z hz => hv z (by simp [hz])) h7
theorem lst_M (k : Nat) (t : Li) (hk : k ≤ 1000) (ht : t.length ≤ 1048576) : ∃ l t' b, M.varintReader_list (str t, false) (k : Int) = some (l, (str t', b)) ∧ t'.length ≤ t.length ∧ l.length ≤ k ∧
   ((b = false ∧ l.length = k ∧ (∀ x ∈ l, vI x) ∧ t = encL l ++ t') ∨ (b = true ∧ ∀ (l' : List Int) (u : Li), l'.length = k → (∀ x ∈ l', vI x) → t ≠ encL l' ++ u)) := by
 obtain ⟨l, t', b, h1, h2⟩ := list_M k FUEL 0 t [] (by rw [FUEL_eq]; omega) ht (by omega) (by simp)
 rw [Nat.zero_add] at h1
 have h1' : M.varintReader_list_l1 (k : Int) FUEL (str t) false [] 0 = some (str t', b, l) := h1
 refine ⟨l, t', b, ?_, h2⟩
 unfold M.varintReader_list
 simp only
 rw [h1']; rfl
theorem DecodeRequest_M (t : Li) (ht : t.length ≤ 1048576) : ∃ r, M.DecodeRequest (str t) = some r ∧ isReq t r := by
 have bad (hb : ∀ f p, ¬ reqOK t f p) : ∃ r : Fa × Int × Bool, (some ((0, []), 0, false) : Option (Fa × Int × Bool)) = some r ∧ isReq t r := ⟨_, rfl, .inr ⟨hb, rfl⟩⟩
 unfold M.DecodeRequest
 obtain ⟨l, t', b, h1, h2, h3, h4⟩ := lst_M 3 t (by omega) ht
 have h1' : M.varintReader_list (str t, false) 3 = some (l, (str t', b)) := h1
 rw [h1', Option.bind_some]
 rcases h4 with ⟨rfl, h5, h6, h7⟩ | ⟨rfl, h5⟩
 ·match l, h5, h6, h7 with
  | [a, p, c], _, h6, h7 =>
   have i0 : idx [a, p, c] 0 = some a := rfl
   have i1 : idx [a, p, c] 1 = some p := rfl
   have i2 : idx [a, p, c] 2 = some c := rfl
   have mt {f : Fa} {q : Int} (h : reqOK t f q) : a = f.1 ∧ p = q ∧ c = (f.2.length : Int) ∧ t' = encL f.2 := by
    have hv := req_valid h.1 h.2.1
    have e : encL [a, p, c] ++ t' = encL [f.1, q, (f.2.length : Int)] ++ encL f.2 := by
     rw [← h7, h.2.2]
     show encL ([f.1, q, (f.2.length : Int)] ++ f.2) = _
     exact List.flatMap_append
    obtain ⟨e1, e2⟩ := encL_pre (l := [a, p, c]) (l' := [f.1, q, (f.2.length : Int)]) rfl h6 (fun x hx => hv x (by simp only [List.mem_cons, List.not_mem_nil, or_false] at hx ⊢; rcases hx with h | h | h <;> simp [h])) e
    simp only [List.cons.injEq, and_true] at e1
    exact ⟨e1.1, e1.2.1, e1.2.2, e2⟩
   simp only [Bool.false_eq_true, if_false]
   rw [i0, i1, i2, Option.bind_some, Option.bind_some]
   by_cases hc : 3 < c
   ·rw [decide_eq_true hc, if_pos rfl]
    refine bad fun f q h => ?_
    have := (mt h).2.2.1
    have := okA_len h.1
    omega
   ·have hc0 := (h6 c (by simp)).1
    obtain ⟨k, rfl⟩ : ∃ k : Nat, c = k := ⟨c.toNat, by omega⟩
    rw [decide_eq_false hc, if_neg (by simp), Option.bind_some, Option.bind_some]
    obtain ⟨v, t2, b2, g1, g2, g3, g4⟩ := lst_M k t' (by omega) (by omega)
    rw [g1]
    simp only [Option.bind_some]
    rw [EncodeRequest_M (a, v) p (by show v.length ≤ _; omega), Option.bind_some]
    rcases g4 with ⟨rfl, g5, g6, g7⟩ | ⟨rfl, g5⟩
    ·have hne : t ≠ [] := by
      intro e
      have h5 := (dcd_encI (h6 a (by simp)) []).2
      rw [h7, encL_cons, List.append_assoc] at e
      have := congrArg List.length e
      rw [List.length_append, List.length_nil] at this
      omega
     simp only [Bool.false_eq_true, if_false]
     have d1 : decide (str (reqT (a, v) p) = str []) = decide (reqT (a, v) p = []) := rfl
     rw [d1, str_ne]
     by_cases hq : reqT (a, v) p = t
     ·rw [hq, if_neg (by simp [hne]), Option.bind_some, if_neg (by simp)]
      exact ⟨_, rfl, .inl ⟨(a, v), p, (reqT_ok hne).1 hq, rfl⟩⟩
     ·have e : (if decide (reqT (a, v) p = []) = true then some true else some (!decide (reqT (a, v) p = t))) = some true := by
       rw [decide_eq_false hq]; split <;> rfl
      rw [e, Option.bind_some, if_pos rfl]
      refine bad fun f q h => hq ?_
      obtain ⟨e1, e2, e3, e4⟩ := mt h
      have hv := (okA_valid h.1).2
      obtain ⟨e5, -⟩ := encL_pre (t := t2) (u := []) (by omega) g6 hv (by rw [← g7, e4, List.append_nil])
      have e6 : (a, v) = f := Prod.ext e1 e5
      rw [e6, e2]
      exact (reqT_ok hne).2 h
    ·simp only [if_true, Option.bind_some]
     refine bad fun f q h => ?_
     obtain ⟨e1, e2, e3, e4⟩ := mt h
     exact g5 f.2 [] (by omega) (okA_valid h.1).2 (by rw [e4, List.append_nil])
 ·simp only [if_true, Option.bind_some]
  refine bad fun f p h => ?_
  have hv := req_valid h.1 h.2.1
  refine h5 [f.1, p, (f.2.length : Int)] (encL f.2) rfl (fun x hx => hv x (by simp only [List.mem_cons, List.not_mem_nil, or_false] at hx ⊢; rcases hx with h | h | h <;> simp [h])) ?_
  rw [h.2.2]
  show encL ([f.1, p, (f.2.length : Int)] ++ f.2) = _
  exact List.flatMap_append
def fl (l : List Fa) : List Int := l.flatMap fun f => f.1 :: (f.2.length : Int) :: f.2
theorem fl_cons (f : Fa) (l : List Fa) : fl (f :: l) = f.1 :: (f.2.length : Int) :: (f.2 ++ fl l) := rfl
theorem encL_app (a b : List Int) : encL (a ++ b) = encL a ++ encL b := List.flatMap_append
theorem repF_parts (f : Fa) : repF f = encL [f.1, (f.2.length : Int)] ++ encL f.2 := encL_app [f.1, (f.2.length : Int)] f.2
theorem encL_fl : ∀ l : List Fa, encL (fl l) = l.flatMap repF
 | [] => rfl
 | f :: l => by
  have e : fl (f :: l) = (f.1 :: (f.2.length : Int) :: f.2) ++ fl l := rfl
  rw [e, encL_app, encL_fl l, List.flatMap_cons]; rfl
theorem repB_L (l : List Fa) : repB l = encL ((l.length : Int) :: fl l) := by rw [encL_cons, encL_fl]; rfl
def repOK (t : Li) (l : List Fa) : Prop := l.length ≤ 24 ∧ l.all okF = true ∧ t = repB l
theorem okF_valid {f : Fa} (h : okF f = true) : vI f.1 ∧ vI (f.2.length : Int) ∧ ∀ x ∈ f.2, vI x := by
 have hl := okF_len h
 unfold okF at h
 simp only [Bool.and_eq_true, inR_iff] at h
 refine ⟨⟨by omega, by omega⟩, ⟨by omega, by omega⟩, fun x hx => ?_⟩
 have := all_in h.2.2 x hx
 exact ⟨by omega, by omega⟩
theorem fl_valid {l : List Fa} (h : l.all okF = true) : ∀ x ∈ fl l, vI x := by
 intro x hx
 obtain ⟨f, hf, hx⟩ := List.mem_flatMap.1 hx
 have hv := okF_valid (List.all_eq_true.1 h f hf)
 simp only [List.mem_cons] at hx
 rcases hx with rfl | rfl | hx
 ·exact hv.1
 ·exact hv.2.1
 ·exact hv.2.2 x hx
theorem rep_valid {t : Li} {l : List Fa} (h : repOK t l) : ∀ x ∈ (l.length : Int) :: fl l, vI x := by
 intro x hx
 rcases List.mem_cons.1 hx with rfl | hx
 ·have := h.1
  exact ⟨by omega, by omega⟩
 ·exact fl_valid h.2.1 x hx
theorem repT_ok {t : Li} {l : List Fa} (h0 : t ≠ []) : repT l = t ↔ repOK t l := by
 unfold repT repOK
 constructor
 ·intro h
  split at h
  ·rename_i hc
   exact ⟨hc.1, hc.2, h.symm⟩
  ·exact absurd h.symm h0
 ·rintro ⟨h1, h2, h3⟩
  rw [if_pos ⟨h1, h2⟩, h3]
theorem repB_ne (l : List Fa) (h : l.length ≤ 24) : repB l ≠ [] := by
 intro e
 have h5 := (dcd_encI (x := (l.length : Int)) ⟨by omega, by omega⟩ []).2
 rw [repB_L, encL_cons] at e
 have := congrArg List.length e
 rw [List.length_append, List.length_nil] at this
 omega
def pf : Nat → List Int → Option (List Fa)
 | 0, _ => some []
 | k + 1, a :: n :: r => if n ≤ 3 ∧ n.toNat ≤ r.length then (pf k (r.drop n.toNat)).map fun l => (a, r.take n.toNat) :: l else none
 | _ + 1, _ => none
theorem pf_short (k : Nat) : ∀ r : List Int, r.length < 2 → pf (k + 1) r = none
 | [], _ => rfl
 | [a], _ => rfl
 | a :: b :: r, h => by simp only [List.length_cons] at h; omega
theorem pf_fl : ∀ l : List Fa, (∀ f ∈ l, f.2.length ≤ 3) → pf l.length (fl l) = some l
 | [], _ => rfl
 | f :: l, h => by
  have h1 := h f (by simp)
  rw [fl_cons, List.length_cons, pf, if_pos ⟨by omega, by rw [Int.toNat_natCast, List.length_append]; omega⟩, Int.toNat_natCast, List.drop_left, List.take_left, pf_fl l fun g hg => h g (by simp [hg])]
  rfl
theorem pf_len : ∀ (k : Nat) (r : List Int) (l : List Fa), pf k r = some l → l.length = k ∧ ∀ f ∈ l, f.2.length ≤ 3
 | 0, _, _, h => by cases h; exact ⟨rfl, by simp⟩
 | k + 1, [], _, h => by cases h
 | k + 1, [_], _, h => by cases h
 | k + 1, a :: n :: r, l, h => by
  rw [pf] at h
  split at h
  ·rename_i hc
   cases hq : pf k (r.drop n.toNat) with
   | none => rw [hq] at h; cases h
   | some m =>
    rw [hq] at h
    obtain rfl := Option.some.inj h
    obtain ⟨h1, h2⟩ := pf_len k _ _ hq
    refine ⟨by rw [List.length_cons, h1], fun f hf => ?_⟩
    rcases List.mem_cons.1 hf with rfl | hf
    ·show (r.take n.toNat).length ≤ 3
     rw [List.length_take]; omega
    ·exact h2 f hf
  ·cases h
def pfR (out : List Fa) : Option (List Fa) → Sum (List Fa) (List Fa × Bool)
 | some l => .inl (out ++ l)
 | none => .inr ([], false)
theorem facts_S (L : List Int) (b : Bool) (c : Nat) (hc : idx L 0 = some (c : Int)) (hv : ∀ x ∈ L, vI x) (hL : L.length ≤ 2000000) (hc24 : c ≤ 24) : ∀ (n K i j : Nat) (out : List Fa), i + n = c → n < K → j ≤ 3000000 → out.length ≤ i →
  S.DecodeReply_l1 (L, b) K out (j : Int) (i : Int) = some (pfR out (pf n (L.drop j))) := by
 intro n
 induction n with
 | zero =>
  intro K i j out h1 hK hj ho
  obtain ⟨K, rfl⟩ : ∃ k, K = k + 1 := ⟨K - 1, by omega⟩
  rw [S.DecodeReply_l1]
  simp only
  rw [hc, Option.bind_some, if_neg (by simp; omega)]
  show _ = some (Sum.inl (out ++ [])); rw [List.append_nil]
 | succ n ih =>
  intro K i j out h1 hK hj ho
  obtain ⟨K, rfl⟩ : ∃ k, K = k + 1 := ⟨K - 1, by omega⟩
  rw [S.DecodeReply_l1]
  simp only
  rw [hc, Option.bind_some, if_pos (decide_eq_true (by omega)), w64_id (n := (j : Int) + 2) (by omega) (by omega), w64_id (n := (j : Int) + 1) (by omega) (by omega)]
  by_cases hj2 : j + 2 ≤ L.length
  ·have hd : L.drop j = L[j] :: L[j + 1] :: L.drop (j + 2) := by rw [List.drop_eq_getElem_cons (by omega), List.drop_eq_getElem_cons (by omega)]
   have i1 : idx L ((j : Int) + 1) = some L[j + 1] := idx_nat L (i := j + 1) (by omega)
   have i0 : idx L (j : Int) = some L[j] := idx_nat L (by omega)
   have hm := hv L[j + 1] (List.getElem_mem _)
   have hm1 := hm.1
   have hm2 := hm.2
   rw [hd, pf, if_neg (by simp; omega), i0, i1]
   obtain ⟨m, he⟩ : ∃ m : Nat, L[j + 1] = m := ⟨L[j + 1].toNat, by omega⟩
   rw [he]
   simp only [Option.bind_some]
   by_cases h3 : 3 < (m : Int)
   ·rw [if_pos (decide_eq_true h3), if_neg (by omega)]; rfl
   ·rw [if_neg (by simpa using h3), w64_id (n := (j : Int) + 2 + (m : Int)) (by omega) (by omega)]
    by_cases h4 : m ≤ (L.drop (j + 2)).length
    ·have h4' := h4
     rw [List.length_drop] at h4
     have hs : sub L ((j : Int) + 2) ((j : Int) + 2 + (m : Int)) = some ((L.drop (j + 2)).take m) := by
      have := sub_nat L (j + 2) (j + 2 + m) (by omega) (by omega)
      rw [List.drop_take, show j + 2 + m - (j + 2) = m by omega] at this
      exact this
     have hl2 : S.l2One L[j] ((L.drop (j + 2)).take m) = some (L[j], (L.drop (j + 2)).take m) := by
      unfold S.l2One
      rw [app_eq _ _ (by simp; omega)]; rfl
     rw [decide_eq_false (show ¬ ((L.length : Int) < (j : Int) + 2 + (m : Int)) by omega)]
     simp only [Option.bind_some, Bool.false_eq_true, if_false]
     rw [hs]
     simp only [Option.bind_some]
     rw [hl2]
     simp only [Option.bind_some]
     rw [app_eq _ _ (by simp; omega)]
     simp only [Option.bind_some]
     rw [w64_succ (by omega), if_pos ⟨by omega, h4'⟩, Int.toNat_natCast]
     have e2 := ih K (i + 1) (j + 2 + m) (out ++ [(L[j], (L.drop (j + 2)).take m)]) (by omega) (by omega) (by omega) (by simp; omega)
     have e3 : ((j + 2 + m : Nat) : Int) = (j : Int) + 2 + (m : Int) := by omega
     rw [e3] at e2
     rw [e2, List.drop_drop]
     cases pf n (L.drop (j + 2 + m)) with
     | none => rfl
     | some l => show some (Sum.inl (out ++ [_] ++ l)) = some (Sum.inl (out ++ (_ :: l))); rw [List.append_assoc]; rfl
    ·rw [decide_eq_true (show (L.length : Int) < (j : Int) + 2 + (m : Int) by rw [List.length_drop] at h4; omega), Option.bind_some, if_pos rfl, if_neg (by rintro ⟨-, h5⟩; exact h4 (by simpa using h5))]; rfl
  ·rw [if_pos (by simp; omega), Option.bind_some, if_pos rfl, pf_short _ _ (by rw [List.length_drop]; omega)]; rfl
def isRep (t : Li) (r : List Fa × Bool) : Prop := (∃ l, repOK t l ∧ r = (l, true)) ∨ ((∀ l, ¬ repOK t l) ∧ r = ([], false))
theorem repOK_one {t : Li} {l m : List Fa} (h : repOK t l) (k : repOK t m) : l = m := by
 have e := encL_inj (rep_valid h) (rep_valid k) (by rw [← repB_L, ← repB_L, ← h.2.2, ← k.2.2])
 simp only [List.cons.injEq] at e
 have h1 := pf_fl l fun f hf => (okF_len (List.all_eq_true.1 h.2.1 f hf)).2
 have h2 := pf_fl m fun f hf => (okF_len (List.all_eq_true.1 k.2.1 f hf)).2
 rw [e.2, show l.length = m.length by omega] at h1
 exact Option.some.inj (h1.symm.trans h2)
theorem isRep_one {t : Li} {r q : List Fa × Bool} (h : isRep t r) (k : isRep t q) : r = q := by
 rcases h with ⟨l, h, rfl⟩ | ⟨h, rfl⟩ <;> rcases k with ⟨m, k, rfl⟩ | ⟨k, rfl⟩
 ·rw [repOK_one h k]
 ·exact absurd h (k l)
 ·exact absurd k (h m)
 ·rfl
theorem small_facts {l : List Fa} (h : ∀ f ∈ l, f.2.length ≤ 3) : ∀ f ∈ l, f.2.length ≤ 4294967296 := fun f hf => Nat.le_trans (h f hf) (by omega)
theorem DecodeReply_S (t : Li) (ht : t.length ≤ 1048576) : ∃ r, S.DecodeReply (str t) = some r ∧ isRep t r := by
 have bad (hb : ∀ l, ¬ repOK t l) : ∃ r : List Fa × Bool, (some ([], false) : Option (List Fa × Bool)) = some r ∧ isRep t r := ⟨_, rfl, .inr ⟨hb, rfl⟩⟩
 unfold S.DecodeReply
 rcases numbers_S t ht with ⟨L, h1, h2, h3, h4⟩ | ⟨h1, h2⟩
 ·rw [h4, Option.bind_some]
  have mt : ∀ l, repOK t l → L = (l.length : Int) :: fl l := fun l h => encL_inj h1 (rep_valid h) (by rw [← repB_L, ← h.2.2]; exact h2.symm)
  match L, h1, h2, h3, mt with
  | [], _, _, _, mt => exact bad fun l h => by cases mt l h
  | c :: R, h1, h2, h3, mt =>
   have hc := h1 c (by simp)
   have hc1 := hc.1
   have i0 : idx (c :: R) 0 = some c := rfl
   simp only [Bool.not_true, Bool.false_eq_true, if_false]
   rw [if_neg (by simp; omega), i0, Option.bind_some, Option.bind_some]
   by_cases h24 : 24 < c
   ·rw [if_pos (decide_eq_true h24)]
    refine bad fun l h => ?_
    have e := mt l h
    simp only [List.cons.injEq] at e
    have := h.1
    omega
   ·obtain ⟨n, rfl⟩ : ∃ n : Nat, c = n := ⟨c.toNat, by omega⟩
    have hS := facts_S ((n : Int) :: R) true n i0 h1 (by omega) (by omega) n FUEL 0 1 [] (by omega) (by rw [FUEL_eq]; omega) (by omega) (by simp)
    have hS' : S.DecodeReply_l1 ((n : Int) :: R, true) FUEL [] 1 0 = _ := hS
    rw [if_neg (by simpa using h24), hS', Option.bind_some, show ((n : Int) :: R).drop 1 = R from rfl]
    have key : ∀ l, repOK t l → pf n R = some l := fun l h => by
     have e := mt l h
     simp only [List.cons.injEq] at e
     have h1 := pf_fl l fun f hf => (okF_len (List.all_eq_true.1 h.2.1 f hf)).2
     rw [← e.2, show l.length = n by omega] at h1
     exact h1
    cases hp : pf n R with
    | none =>
     refine bad fun l h => ?_
     rw [key l h] at hp; cases hp
    | some l =>
     obtain ⟨g1, g2⟩ := pf_len _ _ _ hp
     have hne : t ≠ [] := by
      intro e
      have h5 := (dcd_encI hc []).2
      rw [h2, encL_cons] at e
      have := congrArg List.length e
      rw [List.length_append, List.length_nil] at this
      omega
     simp only [pfR, List.nil_append]
     rw [EncodeReply_S l (small_facts g2), Option.bind_some, str_ne]
     by_cases hq : repT l = t
     ·rw [if_neg (by simp [hq])]
      exact ⟨_, rfl, .inl ⟨l, (repT_ok hne).1 hq, rfl⟩⟩
     ·rw [if_pos (by simp [hq])]
      refine bad fun m h => hq ?_
      have := (key m h).symm.trans hp
      obtain rfl := Option.some.inj this
      exact (repT_ok hne).2 h
 ·rw [h2, Option.bind_some]
  refine bad fun l h => h1 _ (rep_valid h) ?_
  rw [← repB_L]; exact h.2.2
theorem list_bad (s : Str) (k : Int) : M.varintReader_list (s, true) k = some ([], (s, true)) := by
 unfold M.varintReader_list
 rw [FUEL_eq, M.varintReader_list_l1]
 simp only [if_true, ite_self]
 rfl
theorem two_pre {a m : Int} {f : Fa} {u v : Li} (ha : ∀ x ∈ [a, m], vI x) (h : okF f = true) (e : encL [a, m] ++ u = repF f ++ v) : a = f.1 ∧ m = (f.2.length : Int) ∧ u = encL f.2 ++ v := by
 have hv := okF_valid h
 rw [repF_parts, List.append_assoc] at e
 obtain ⟨e1, e2⟩ := encL_pre (l := [a, m]) (l' := [f.1, (f.2.length : Int)]) rfl ha (fun x hx => by
  simp only [List.mem_cons, List.not_mem_nil, or_false] at hx
  rcases hx with rfl | rfl
  ·exact hv.1
  ·exact hv.2.1) e
 simp only [List.cons.injEq, and_true] at e1
 exact ⟨e1.1, e1.2, e2⟩
def okN (f : Fa) : Prop := vI f.1 ∧ f.2.length ≤ 3 ∧ ∀ x ∈ f.2, vI x
theorem facts_M (n : Nat) (hn : n ≤ 24) (y : Str × Bool) : ∀ (k K i : Nat) (u : Li) (out : List Fa), i + k = n → k + 1 < K → u.length ≤ 1048576 → out.length = i → (∀ f ∈ out, f.2.length ≤ 3) →
  ∃ res, M.DecodeReply_l1 ((n : Int), y) K (str u) false out (i : Int) = some res ∧
   ((∃ l v, l.length = k ∧ (∀ f ∈ l, okN f) ∧ u = l.flatMap repF ++ v ∧ res = .inl (str v, false, out ++ l)) ∨
    ((∀ (l : List Fa) (v : Li), l.length = k → l.all okF = true → u ≠ l.flatMap repF ++ v) ∧ (res = .inr ([], false) ∨ ∃ v out', res = .inl (v, true, out') ∧ ∀ f ∈ out', f.2.length ≤ 3))) := by
 intro k
 induction k with
 | zero =>
  intro K i u out h1 hK hu ho hf
  obtain ⟨K, rfl⟩ : ∃ k, K = k + 1 := ⟨K - 1, by omega⟩
  rw [M.DecodeReply_l1]
  simp only
  rw [if_neg (by simp; omega)]
  exact ⟨_, rfl, .inl ⟨[], u, rfl, by simp, rfl, by rw [List.append_nil]⟩⟩
 | succ k ih =>
  intro K i u out h1 hK hu ho hf
  obtain ⟨K, rfl⟩ : ∃ k, K = k + 1 := ⟨K - 1, by omega⟩
  rw [M.DecodeReply_l1]
  simp only
  obtain ⟨l, u1, b, g1, g2, g3, g4⟩ := lst_M 2 u (by omega) hu
  have g1' : M.varintReader_list (str u, false) 2 = some (l, (str u1, b)) := g1
  rw [if_pos (decide_eq_true (by omega)), g1', Option.bind_some]
  rcases g4 with ⟨rfl, g5, g6, g7⟩ | ⟨rfl, g5⟩
  ·match l, g5, g6, g7 with
   | [a, m], _, g6, g7 =>
    have i0 : idx [a, m] 0 = some a := rfl
    have i1 : idx [a, m] 1 = some m := rfl
    simp only [Bool.false_eq_true, if_false]
    rw [i0, i1]
    simp only [Option.bind_some]
    by_cases hm : 3 < m
    ·rw [decide_eq_true hm, if_pos rfl]
     refine ⟨_, rfl, .inr ⟨fun l v hl ha e => ?_, .inl rfl⟩⟩
     cases l with
     | nil => simp at hl
     | cons f l =>
      rw [List.all_cons, Bool.and_eq_true] at ha
      rw [List.flatMap_cons, List.append_assoc, g7] at e
      have := (two_pre g6 ha.1 e).2.1
      have := okF_len ha.1
      omega
    ·have hm0 := (g6 m (by simp)).1
     obtain ⟨m, rfl⟩ : ∃ q : Nat, m = q := ⟨m.toNat, by omega⟩
     rw [decide_eq_false hm, if_neg (by simp)]
     obtain ⟨v, u2, b2, q1, q2, q3, q4⟩ := lst_M m u1 (by omega) (by omega)
     rw [q1]
     simp only [Option.bind_some]
     rw [app_eq _ _ (by simp; omega)]
     simp only [Option.bind_some]
     rw [w64_succ (by omega)]
     rcases q4 with ⟨rfl, q5, q6, q7⟩ | ⟨rfl, q5⟩
     ·obtain ⟨res, r1, r2⟩ := ih K (i + 1) u2 (out ++ [(a, v)]) (by omega) (by omega) (by omega) (by simp; omega) (fun f hf' => by
       rcases List.mem_append.1 hf' with h | h
       ·exact hf f h
       ·rw [List.mem_singleton] at h; subst h; show v.length ≤ 3; omega)
      refine ⟨res, r1, ?_⟩
      have hu2 : u = repF (a, v) ++ u2 := by rw [g7, q7, repF_parts, List.append_assoc]; show _ = encL [a, (v.length : Int)] ++ _; rw [q5]
      rcases r2 with ⟨l, w, s1, s2, s3, s4⟩ | ⟨s1, s2⟩
      ·refine .inl ⟨(a, v) :: l, w, by rw [List.length_cons, s1], fun f hf' => ?_, by rw [List.flatMap_cons, List.append_assoc, ← s3, hu2], by rw [s4, List.append_assoc]; rfl⟩
       rcases List.mem_cons.1 hf' with rfl | h
       ·exact ⟨g6 a (by simp), by show v.length ≤ 3; omega, q6⟩
       ·exact s2 f h
      ·refine .inr ⟨fun l w hl ha e => ?_, s2⟩
       cases l with
       | nil => simp at hl
       | cons f l =>
        rw [List.all_cons, Bool.and_eq_true] at ha
        rw [List.flatMap_cons, List.append_assoc, g7] at e
        obtain ⟨e1, e2, e3⟩ := two_pre g6 ha.1 e
        rw [q7] at e3
        obtain ⟨e4, e5⟩ := encL_pre (l := v) (l' := f.2) (by omega) q6 (okF_valid ha.1).2.2 e3
        exact s1 l w (by simpa using hl) ha.2 e5
     ·obtain ⟨K, rfl⟩ : ∃ k, K = k + 1 := ⟨K - 1, by omega⟩
      have no : ∀ (l : List Fa) (w : Li), l.length = k + 1 → l.all okF = true → u ≠ l.flatMap repF ++ w := by
       intro l w hl ha e
       cases l with
       | nil => simp at hl
       | cons f l =>
        rw [List.all_cons, Bool.and_eq_true] at ha
        rw [List.flatMap_cons, List.append_assoc, g7] at e
        obtain ⟨e1, e2, e3⟩ := two_pre g6 ha.1 e
        exact q5 f.2 _ (by omega) (okF_valid ha.1).2.2 e3
      rw [M.DecodeReply_l1]
      simp only
      rw [list_bad]
      simp only [Option.bind_some, if_true]
      split
      ·exact ⟨_, rfl, .inr ⟨no, .inl rfl⟩⟩
      ·refine ⟨_, rfl, .inr ⟨no, .inr ⟨_, _, rfl, fun f hf' => ?_⟩⟩⟩
       rcases List.mem_append.1 hf' with h | h
       ·exact hf f h
       ·rw [List.mem_singleton] at h; subst h; show v.length ≤ 3; omega
  ·simp only [if_true, Option.bind_some]
   refine ⟨_, rfl, .inr ⟨fun l v hl ha e => ?_, .inl rfl⟩⟩
   cases l with
   | nil => simp at hl
   | cons f l =>
    rw [List.all_cons, Bool.and_eq_true] at ha
    have hv := okF_valid ha.1
    refine g5 [f.1, (f.2.length : Int)] (encL f.2 ++ (l.flatMap repF ++ v)) rfl (fun x hx => ?_) ?_
    ·simp only [List.mem_cons, List.not_mem_nil, or_false] at hx
     rcases hx with rfl | rfl
     ·exact hv.1
     ·exact hv.2.1
    ·rw [e, List.flatMap_cons, repF_parts, List.append_assoc, List.append_assoc]
theorem facts_pre : ∀ {l m : List Fa} {t u : Li}, l.length = m.length → (∀ f ∈ l, okN f) → m.all okF = true → l.flatMap repF ++ t = m.flatMap repF ++ u → l = m
 | [], [], _, _, _, _, _, _ => rfl
 | [], _ :: _, _, _, h, _, _, _ => by simp at h
 | _ :: _, [], _, _, h, _, _, _ => by simp at h
 | f :: l, g :: m, t, u, hl, h1, h2, h => by
  rw [List.all_cons, Bool.and_eq_true] at h2
  rw [List.flatMap_cons, List.flatMap_cons, List.append_assoc, List.append_assoc, repF_parts f, List.append_assoc] at h
  have hf := h1 f (by simp)
  obtain ⟨e1, e2, e3⟩ := two_pre (a := f.1) (m := (f.2.length : Int)) (fun x hx => by
   simp only [List.mem_cons, List.not_mem_nil, or_false] at hx
   rcases hx with rfl | rfl
   ·exact hf.1
   ·have := hf.2.1
    exact ⟨by omega, by omega⟩) h2.1 h
  obtain ⟨e4, e5⟩ := encL_pre (l := f.2) (l' := g.2) (by omega) hf.2.2 (okF_valid h2.1).2.2 e3
  rw [show f = g from Prod.ext e1 e4, facts_pre (by simpa using hl) (fun x hx => h1 x (by simp [hx])) h2.2 e5]
theorem DecodeReply_M (t : Li) (ht : t.length ≤ 1048576) : ∃ r, M.DecodeReply (str t) = some r ∧ isRep t r := by
 have bad (hb : ∀ l, ¬ repOK t l) : ∃ r : List Fa × Bool, (some ([], false) : Option (List Fa × Bool)) = some r ∧ isRep t r := ⟨_, rfl, .inr ⟨hb, rfl⟩⟩
 unfold M.DecodeReply
 rcases dcd_case t with hd | ⟨x, u, hx, rfl⟩
 ·rw [next_bad hd ht]
  simp only [Option.bind_some, if_true]
  refine bad fun l h => ?_
  have hl := h.1
  have h5 := dcd_encI (x := (l.length : Int)) ⟨by omega, by omega⟩ (l.flatMap repF)
  have e : t = encI (l.length : Int) ++ l.flatMap repF := h.2.2
  rw [← e, hd] at h5
  have := congrArg (·.2) h5.1
  simp only at this
  omega
 ·have hlen : (encI x ++ u).length = (encI x).length + u.length := List.length_append
  have hx1 := hx.1
  rw [next_ok hx u ht]
  simp only [Option.bind_some, Bool.false_eq_true, if_false]
  have mt : ∀ l, repOK (encI x ++ u) l → x = (l.length : Int) ∧ u = l.flatMap repF := fun l h => by
   have hl := h.1
   exact encI_pre hx (y := (l.length : Int)) ⟨by omega, by omega⟩ h.2.2
  by_cases h24 : 24 < x
  ·rw [if_pos (decide_eq_true h24)]
   refine bad fun l h => ?_
   have := (mt l h).1
   have := h.1
   omega
  ·obtain ⟨n, rfl⟩ : ∃ n : Nat, x = n := ⟨x.toNat, by omega⟩
   rw [if_neg (by simpa using h24)]
   obtain ⟨res, r1, r2⟩ := facts_M n (by omega) (str u, false) n FUEL 0 u [] (by omega) (by rw [FUEL_eq]; omega) (by omega) rfl (by simp)
   have r1' : M.DecodeReply_l1 ((n : Int), (str u, false)) FUEL (str u) false [] 0 = some res := r1
   rw [r1', Option.bind_some]
   rcases r2 with ⟨l, v, s1, s2, s3, rfl⟩ | ⟨s1, s2⟩
   ·have hne : encI (n : Int) ++ u ≠ [] := by
     intro e
     have h5 := (dcd_encI hx u).2
     have := congrArg List.length e
     rw [hlen, List.length_nil] at this
     omega
    simp only [List.nil_append]
    rw [EncodeReply_M l (small_facts fun f hf => (s2 f hf).2.1)]
    simp only [Option.bind_some, Bool.false_eq_true, if_false]
    have d1 : decide (str (repT l) = str []) = decide (repT l = []) := rfl
    rw [d1, str_ne]
    by_cases hq : repT l = encI (n : Int) ++ u
    ·rw [hq, if_neg (by simpa using hne), Option.bind_some, if_neg (by simp)]
     exact ⟨_, rfl, .inl ⟨l, (repT_ok hne).1 hq, rfl⟩⟩
    ·have e : (if decide (repT l = []) = true then some true else some (!decide (repT l = encI (n : Int) ++ u))) = some true := by
      rw [decide_eq_false hq]; split <;> rfl
     rw [e, Option.bind_some, if_pos rfl]
     refine bad fun m h => hq ?_
     obtain ⟨e1, e2⟩ := mt m h
     have e3 : l = m := facts_pre (by omega) s2 h.2.1 (t := v) (u := []) (by rw [← s3, e2, List.append_nil])
     rw [e3]
     exact (repT_ok hne).2 h
   ·have no : ∀ l, ¬ repOK (encI (n : Int) ++ u) l := fun l h => by
     obtain ⟨e1, e2⟩ := mt l h
     exact s1 l [] (by omega) h.2.1 (by rw [List.append_nil]; exact e2)
    rcases s2 with rfl | ⟨v, out, rfl, s3⟩
    ·exact bad no
    ·simp only
     rw [EncodeReply_M out (small_facts s3)]
     simp only [Option.bind_some, if_true]
     exact bad no
theorem cmpL_refl : ∀ a : List Int, cmpL a a = 0
 | [] => rfl
 | x :: a => by unfold cmpL; rw [if_neg (by omega), if_neg (by omega), cmpL_refl a]
theorem cmpF_refl (a : Fa) : cmpF a a = 0 := by unfold cmpF; rw [if_neg (by omega), if_neg (by omega), cmpL_refl]
theorem SameFacts_refl (l : List Fa) (hl : l.length ≤ 4294967296) (hf : ∀ f ∈ l, f.2.length ≤ 4294967296) : S.SameFacts l l = some true := by
 unfold S.SameFacts
 rw [if_neg (by simp), eq_loop (fun k i => (S.SameFacts_l1 l l k i)) l.length hl (fun k => by rw [S.SameFacts_l1, if_neg (by simp)]) (fun k i hi => by
  have h := hf _ (List.getElem_mem hi)
  rw [S.SameFacts_l1, if_pos (decide_eq_true (by omega)), idx_nat l hi, Option.bind_some, Option.bind_some, CompareFacts_S _ _ h h, cmpF_refl, Option.bind_some, if_neg (by simp), w64_succ (by omega)])]
 rfl
theorem sameInts_refl (l : List Int) (hl : l.length ≤ 4294967296) : Q.sameInts l l = some true := by
 unfold Q.sameInts
 rw [if_neg (by simp), eq_loop (fun k i => Q.sameInts_l1 l l k i) l.length hl (fun k => by rw [Q.sameInts_l1, if_neg (by simp)]) (fun k i hi => by
  rw [Q.sameInts_l1, if_pos (decide_eq_true (by omega)), idx_nat l hi, Option.bind_some, Option.bind_some, if_neg (by simp), w64_succ (by omega)])]
 rfl
theorem drawEnc_ok (a : Code) (ha : a.length ≤ 1048576) : ∃ (f : Fa) (p : Int), S.DrawEncodeRequest a = some (f, p) ∧ f.2.length ≤ 101 := by
 obtain ⟨t, e0⟩ := new_ok a ha
 obtain ⟨f, q1, t1, e1, hf, p1⟩ := access26_ok a 0 t ha ⟨by omega, by omega⟩
 obtain ⟨v2, q2, t2, e2, -, -, p2⟩ := below_ok a q1 t1 12 ha p1 (by omega) (by omega)
 unfold S.DrawEncodeRequest
 rw [e0, Option.bind_some]
 simp only
 rw [e1, Option.bind_some]
 simp only
 rw [e2]
 exact ⟨f, w64 (v2 - 1), rfl, hf⟩
theorem pickS_ok (a : Code) (p s : Int) (ha : a.length ≤ 1048576) (hp : Pos a p) : ∃ (x : Str) (q t : Int), S.l1Pick (a, p, s) [(str []), (str [0]), (str [128])] = some (x, (a, q, t)) ∧ List.length x ≤ 1 := by
 obtain ⟨v, q, t, e, h0, h1, p1⟩ := below_ok a p s 3 ha hp (by omega) (by omega)
 have e' : S.l1Below (a, p, s) (List.length [(str []), (str [0]), (str [128])] : Int) = some (v, (a, q, t)) := e
 unfold S.l1Pick
 simp only
 rw [e', Option.bind_some]
 obtain ⟨n, rfl⟩ : ∃ n : Nat, v = n := ⟨v.toNat, by omega⟩
 match n, h1 with
 | 0, _ => exact ⟨str [], q, t, rfl, Nat.zero_le _⟩
 | 1, _ => exact ⟨str [0], q, t, rfl, Nat.le_refl _⟩
 | 2, _ => exact ⟨str [128], q, t, rfl, Nat.le_refl _⟩
 | n + 3, h => omega
theorem drawDec_ok (a : Code) (ha : a.length ≤ 1048576) : ∃ r : Str, S.DrawDecodeRequest a = some r ∧ List.length r ≤ 400000 := by
 obtain ⟨t, e0⟩ := new_ok a ha
 obtain ⟨f, q1, t1, e1, hf, p1⟩ := access26_ok a 0 t ha ⟨by omega, by omega⟩
 obtain ⟨v2, q2, t2, e2, -, -, p2⟩ := below_ok a q1 t1 9 ha p1 (by omega) (by omega)
 obtain ⟨m, e3, hm⟩ := req_text f (w64 (1 + v2)) hf
 obtain ⟨v3, q3, t3, e4, -, -, p3⟩ := below_ok a q2 t2 4 ha p2 (by omega) (by omega)
 unfold S.DrawDecodeRequest
 rw [e0, Option.bind_some]
 simp only
 rw [e1, Option.bind_some]
 simp only
 rw [e2, Option.bind_some]
 simp only
 rw [e3, Option.bind_some, e4, Option.bind_some]
 simp only
 by_cases c0 : v3 = 0
 ·obtain ⟨r, q4, t4, e5, hr⟩ := spoil_ok a q3 t3 m ha p3 (show List.length m ≤ 100000 by omega)
  rw [if_pos (decide_eq_true c0), e5]
  exact ⟨r, rfl, hr⟩
 ·rw [if_neg (by simpa using c0)]
  by_cases c1 : v3 = 1
  ·obtain ⟨x, q4, t4, e5, hx⟩ := pickS_ok a q3 t3 ha p3
   rw [if_pos (decide_eq_true c1), e5, Option.bind_some]
   simp only
   rw [cat_ok _ _ (by omega)]
   exact ⟨_, rfl, by rw [catS_len]; omega⟩
  ·rw [if_neg (by simpa using c1)]
   exact ⟨m, rfl, by omega⟩
theorem drawEncR_ok (a : Code) (ha : a.length ≤ 1048576) : ∃ l : List Fa, S.DrawEncodeReply a = some l ∧ l.length ≤ 9 ∧ ∀ f ∈ l, f.2.length ≤ 4 := by
 obtain ⟨t, e0⟩ := new_ok a ha
 obtain ⟨sc, q1, t1, e1, hs, -, p1⟩ := schema_ok a 0 t ha ⟨by omega, by omega⟩
 obtain ⟨l, q2, t2, e2, hl, hf, p2⟩ := anyFacts_ok a q1 t1 sc ha p1 hs
 unfold S.DrawEncodeReply
 rw [e0, Option.bind_some]
 simp only
 rw [e1, Option.bind_some]
 simp only
 rw [e2]
 exact ⟨l, rfl, hl, hf⟩
theorem drawDecR_ok (a : Code) (ha : a.length ≤ 1048576) : ∃ r : Str, S.DrawDecodeReply a = some r ∧ List.length r ≤ 400000 := by
 obtain ⟨t, e0⟩ := new_ok a ha
 obtain ⟨sc, q1, t1, e1, hs, -, p1⟩ := schema_ok a 0 t ha ⟨by omega, by omega⟩
 obtain ⟨l, q2, t2, e2, hl, hf, p2⟩ := anyFacts_ok a q1 t1 sc ha p1 hs
 obtain ⟨r, e3, hr⟩ := reply_text l hl hf
 obtain ⟨b, q3, t3, e4, p3⟩ := once_ok a q2 t2 3 ha p2 (by omega) (by omega)
 unfold S.DrawDecodeReply
 rw [e0, Option.bind_some]
 simp only
 rw [e1, Option.bind_some]
 simp only
 rw [e2, Option.bind_some]
 simp only
 rw [e3, Option.bind_some, e4, Option.bind_some]
 simp only
 cases b
 ·exact ⟨r, rfl, by omega⟩
 ·obtain ⟨u, q4, t4, e5, hu⟩ := spoil_ok a q3 t3 r ha p3 (show List.length r ≤ 100000 by omega)
  rw [if_pos rfl, e5]
  exact ⟨u, rfl, hu⟩
theorem reqT_read (f : Fa) (p : Int) {r : Fa × Int × Bool} (h : isReq (reqT f p) r) : (reqT f p = [] ∧ r.2.2 = false) ∨ (reqT f p ≠ [] ∧ r = (f, p, true)) := by
 by_cases h0 : reqT f p = []
 ·refine .inl ⟨h0, ?_⟩
  rcases h with ⟨g, q, h, rfl⟩ | ⟨h, rfl⟩
  ·have h5 := (dcd_encI (okA_valid h.1).1 []).2
   have e := h.2.2
   rw [h0, encL_cons] at e
   have := congrArg List.length e
   rw [List.length_append, List.length_nil] at this
   omega
  ·rfl
 ·refine .inr ⟨h0, ?_⟩
  have hk : reqOK (reqT f p) f p := (reqT_ok h0).1 rfl
  rcases h with ⟨g, q, h, rfl⟩ | ⟨h, rfl⟩
  ·obtain ⟨rfl, rfl⟩ := reqOK_one hk h; rfl
  ·exact absurd hk (h f p)
theorem repT_read (l : List Fa) {r : List Fa × Bool} (h : isRep (repT l) r) : (repT l = [] ∧ r.2 = false) ∨ (repT l ≠ [] ∧ r = (l, true)) := by
 by_cases h0 : repT l = []
 ·refine .inl ⟨h0, ?_⟩
  rcases h with ⟨m, h, rfl⟩ | ⟨h, rfl⟩
  ·exact absurd (h.2.2.symm.trans h0) (repB_ne m h.1)
  ·rfl
 ·refine .inr ⟨h0, ?_⟩
  have hk : repOK (repT l) l := (repT_ok h0).1 rfl
  rcases h with ⟨m, h, rfl⟩ | ⟨h, rfl⟩
  ·rw [repOK_one hk h]
  ·exact absurd hk (h l)
theorem str_nil (a : Li) : decide (str a = str []) = decide (a = []) := rfl
theorem p_FnRequests (a1 : List UInt8) (h1 : Rng.r a1) : Q.FnRequests a1 = some true := by
 unfold Q.FnRequests Q.big
 rw [Option.bind_some]
 by_cases hb : (1048576 : Int) < (a1.length : Int)
 ·rw [if_pos (by simpa using hb)]
 ·rw [if_neg (by simpa using hb)]
  have ha : a1.length ≤ 1048576 := by omega
  obtain ⟨f, p, e1, hf⟩ := drawEnc_ok a1 ha
  obtain ⟨x, e2, hx⟩ := drawDec_ok a1 ha
  obtain ⟨l, e3, hl, hlf⟩ := drawEncR_ok a1 ha
  obtain ⟨y, e4, hy⟩ := drawDecR_ok a1 ha
  obtain ⟨r1, f1, g1⟩ := DecodeRequest_M (reqT f p) (Nat.le_trans (reqT_len f p) (by omega))
  obtain ⟨r2, f2, g2⟩ := DecodeRequest_M x (show List.length x ≤ _ by omega)
  obtain ⟨r2', f2', g2'⟩ := DecodeRequest_S x (show List.length x ≤ _ by omega)
  obtain rfl := isReq_one g2 g2'
  obtain ⟨r3, f3, g3⟩ := DecodeReply_M (repT l) (Nat.le_trans (repT_len l) (by omega))
  obtain ⟨r4, f4, g4⟩ := DecodeReply_M y (show List.length y ≤ _ by omega)
  obtain ⟨r4', f4', g4'⟩ := DecodeReply_S y (show List.length y ≤ _ by omega)
  obtain rfl := isRep_one g4 g4'
  have f2 : M.DecodeRequest x = some r2 := f2
  have f2' : S.DecodeRequest x = some r2 := f2'
  have f4 : M.DecodeReply y = some r4 := f4
  have f4' : S.DecodeReply y = some r4 := f4'
  have hlf' : ∀ f ∈ l, f.2.length ≤ 4294967296 := fun f h => Nat.le_trans (hlf f h) (by omega)
  have m1 : M.EncodeRequest (f.1, f.2) p = some (str (reqT f p)) := EncodeRequest_M f p (by omega)
  have s1 : S.EncodeRequest (f.1, f.2) p = some (str (reqT f p)) := EncodeRequest_S f p (by omega)
  have t1 : ∀ (K : Option Bool), ((S.EncodeRequest (f.1, f.2) p).bind fun x6 =>
    if (!decide (str (reqT f p) = x6)) = true then some true else
     (S.EncodeRequest (f.1, f.2) p).bind fun x7 =>
     if (!decide (r1.2.2 = !decide (x7 = str []))) = true then some true else
      if r1.2.2 = true then
       if (!decide (r1.2.1 = p)) = true then some true else
        if (!decide (r1.1.1 = f.1)) = true then some true else (Q.sameInts r1.1.2 f.2).bind fun x8 => some (!x8)
      else some false) = some false := by
   intro _
   rw [s1, Option.bind_some, if_neg (by simp), Option.bind_some, str_nil]
   rcases reqT_read f p g1 with ⟨k1, k2⟩ | ⟨k1, rfl⟩
   ·rw [k1, k2, decide_eq_true rfl]; rfl
   ·rw [decide_eq_false k1]
    simp only [Bool.not_false, decide_true, Bool.not_true, Bool.false_eq_true, if_false, if_true]
    rw [sameInts_refl _ (by omega)]; rfl
  have t2 : (if (!decide (r2.2.2 = r2.2.2)) = true then some true else
    if r2.2.2 = true then (M.EncodeRequest (r2.1.1, r2.1.2) r2.2.1).bind fun x13 => some (!decide (x13 = x)) else some false) = some false := by
   rw [if_neg (by simp)]
   rcases g2 with ⟨g, q, h, rfl⟩ | ⟨h, rfl⟩
   ·have hx0 : x ≠ [] := by
     intro e
     have h5 := (dcd_encI (okA_valid h.1).1 []).2
     have e2 := h.2.2
     rw [e, encL_cons] at e2
     have := congrArg List.length e2
     rw [List.length_append, List.length_nil] at this
     omega
    have e : M.EncodeRequest (g.1, g.2) q = some x := by
     have h6 : reqT g q = x := (reqT_ok hx0).2 h
     have h7 := EncodeRequest_M g q (Nat.le_trans (okA_len h.1) (by omega))
     rw [h6] at h7; exact h7
    simp only [if_true]
    rw [e, Option.bind_some, decide_eq_true rfl]; rfl
   ·rfl
  have t3 : ((S.EncodeReply l).bind fun x18 => if (!decide (str (repT l) = x18)) = true then some true else
    (S.EncodeReply l).bind fun x19 => if (!decide (r3.2 = !decide (x19 = str []))) = true then some true else
     if r3.2 = true then (S.SameFacts r3.1 l).bind fun x20 => some (!x20) else some false) = some false := by
   rw [EncodeReply_S l hlf', Option.bind_some, if_neg (by simp), Option.bind_some, str_nil]
   rcases repT_read l g3 with ⟨k1, k2⟩ | ⟨k1, rfl⟩
   ·rw [k1, k2, decide_eq_true rfl]; rfl
   ·rw [decide_eq_false k1]
    simp only [Bool.not_false, decide_true, Bool.not_true, Bool.false_eq_true, if_false, if_true]
    rw [SameFacts_refl l (by omega) hlf']; rfl
  have t4 : (if decide (r4.2 = r4.2) = true then if (!r4.2) = true then some true else
    (M.EncodeReply r4.1).bind fun x25 => some (decide (x25 = y)) else some false) = some true := by
   rw [if_pos (by simp)]
   rcases g4 with ⟨m, h, rfl⟩ | ⟨h, rfl⟩
   ·have hy0 : y ≠ [] := by
     intro e
     exact repB_ne m h.1 (h.2.2.symm.trans e)
    have e : M.EncodeReply m = some y := by
     have h6 : repT m = y := (repT_ok hy0).2 h
     have h7 := EncodeReply_M m (small_facts fun f hf => (okF_len (List.all_eq_true.1 h.2.1 f hf)).2)
     rw [h6] at h7; exact h7
    simp only [Bool.not_true, Bool.false_eq_true, if_false]
    rw [e, Option.bind_some, decide_eq_true rfl]
   ·rfl
  rw [e1, Option.bind_some]
  simp only
  rw [m1, Option.bind_some, f1, Option.bind_some, t1 none, Option.bind_some, if_neg (by simp), e2, Option.bind_some, f2, Option.bind_some, f2', Option.bind_some, t2, Option.bind_some, if_neg (by simp), e3, Option.bind_some, EncodeReply_M l hlf', Option.bind_some, f3, Option.bind_some, t3, Option.bind_some, if_neg (by simp), e4, Option.bind_some, f4, Option.bind_some, f4', Option.bind_some, t4]
  rfl

end Go.Gx.Px
