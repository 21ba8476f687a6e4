/- Plain laws, many texts in one. Conditions: none. -/
import Derived.Test.YtpkooeejhbjajaaPlSp
import Derived.Test.YtpkooeejhbjajaaPlTy
set_option linter.unusedVariables false
set_option linter.unusedSimpArgs false
namespace Go.Gx.Px
abbrev Fa := Int × List Int
theorem inS (a b c : Int) : S.l1In a b c = some (inR a b c) := by
  unfold S.l1In inR
  by_cases h : b ≤ a <;> simp [h]
theorem inM (a b c : Int) : M.within a b c = some (inR a b c) := by
  unfold M.within inR
  by_cases h : b ≤ a <;> simp [h]
theorem idx_in {α : Type} {l : List α} {r : Int} (d : α) (h : inR r 0 ((l.length : Int) - 1) = true) : idx l r = some (l.getD r.toNat d) := by
  rw [inR_iff] at h
  obtain ⟨n, rfl⟩ : ∃ n : Nat, r = n := ⟨r.toNat, by omega⟩
  have hn : n < l.length := by omega
  rw [idx_nat l hn]
  simp [hn]
/-- a loop over numbers that stops at the first that is not as it should be -/
theorem all_loopN {β : Type} (f : Nat → Int → Option (Sum Unit β)) (n : Nat) (q : Nat → Bool) (b : β) (hn : n ≤ 4294967296) (he : ∀ k, f (k + 1) (n : Int) = some (.inl ()))
    (hs : ∀ k (i : Nat), i < n → f (k + 1) (i : Int) = if q i then f k ((i + 1 : Nat) : Int) else some (.inr b)) : f FUEL 0 = some (if (List.range n).all q then .inl () else .inr b) :=
  all_loop f (List.range n) q b (by simpa using hn) (by simpa using he) (fun k i hi => by rw [hs k i (by simpa using hi)]; simp)
theorem any_loop {α β : Type} (f : Nat → Int → Option (Sum Unit β)) (a : List α) (q : α → Bool) (b : β) (hn : a.length ≤ 4294967296) (he : ∀ k, f (k + 1) (a.length : Int) = some (.inl ()))
    (hs : ∀ k (i : Nat) (hi : i < a.length), f (k + 1) (i : Int) = if q a[i] then some (.inr b) else f k ((i + 1 : Nat) : Int)) : f FUEL 0 = some (if a.any q then .inr b else .inl ()) := by
  rw [all_loop f a (fun e => !q e) b hn he (fun k i hi => by rw [hs k i hi]; cases q a[i] <;> rfl)]
  have : a.all (fun e => !q e) = !a.any q := by rw [List.any_eq_not_all_not]; simp
  rw [this]; cases a.any q <;> rfl
theorem flat_loopN {β : Type} (f : Nat → List β → Int → Option (List β)) (n : Nat) (g : Nat → List β) (hn : n ≤ 4294967296) (he : ∀ k x, f (k + 1) x (n : Int) = some x)
    (hs : ∀ k (x : List β) (i : Nat), i < n → x = (List.range i).flatMap g → f (k + 1) x (i : Int) = f k (x ++ g i) ((i + 1 : Nat) : Int)) : f FUEL [] 0 = some ((List.range n).flatMap g) :=
  flat_loop f (List.range n) g (by simpa using hn) (by simpa using he) (fun k x i hi hx => by
    rw [List.length_range] at hi
    rw [hs k x i hi (by rw [hx, List.take_range, Nat.min_eq_left (by omega)])]; simp)
theorem flatMap_len {α β : Type} (g : α → List β) (hg : ∀ i, (g i).length ≤ 1) : ∀ l : List α, (l.flatMap g).length ≤ l.length
  | [] => by simp
  | a :: l => by have := hg a; have := flatMap_len g hg l; simp only [List.flatMap_cons, List.length_append, List.length_cons]; omega
theorem w64_pred {i : Nat} (h0 : 0 < i) (h : i < 4294967296) : w64 ((i : Int) - 1) = ((i - 1 : Nat) : Int) := by
  rw [w64_id (by omega) (by omega)]; omega
theorem any_not {α : Type} (l : List α) (q : α → Bool) : l.any (fun e => !q e) = !l.all q := by rw [List.all_eq_not_any_not]; simp

theorem l2One_eq (r : Int) (v : List Int) (h : v.length ≤ 1048576) : S.l2One r v = some (r, v) := by
  unfold S.l2One; rw [app_eq _ _ (by simp; omega)]; rfl

/-- a list is compared with another -/
def cmpL : List Int → List Int → Int
  | [], [] => 0
  | [], _ :: _ => -1
  | _ :: _, [] => 1
  | x :: a, y :: b => if x < y then -1 else if y < x then 1 else cmpL a b
def cmpF (a b : Int × List Int) : Int := if a.1 < b.1 then -1 else if b.1 < a.1 then 1 else cmpL a.2 b.2
theorem CompareFacts_S (a b : Int × List Int) (ha : a.2.length ≤ 4294967296) (hb : b.2.length ≤ 4294967296) : S.CompareFacts a b = some (cmpF a b) := by
  unfold S.CompareFacts
  by_cases h0 : a.1 = b.1
  · have hc : cmpF a b = cmpL a.2 b.2 := by unfold cmpF; rw [if_neg (by omega), if_neg (by omega)]
    rw [hc, if_neg (by simp [h0])]
    have key : ∀ (K i : Nat), i ≤ a.2.length → i ≤ b.2.length → a.2.length < i + K → (S.CompareFacts_l1 a b K (i : Int)).bind (fun o => match o with
        | .inl () => if (decide ((List.length a.2 : Int) < (List.length b.2 : Int))) then some (-1) else if (decide ((List.length b.2 : Int) < (List.length a.2 : Int))) then some 1 else some 0
        | .inr r => some r) = some (cmpL (a.2.drop i) (b.2.drop i)) := by
      intro K
      induction K with
      | zero => intro i h1 h2 h3; omega
      | succ K ih =>
        intro i h1 h2 h3
        rw [S.CompareFacts_l1]
        by_cases hi : i < a.2.length
        · rw [if_pos (show decide ((i : Int) < (List.length a.2 : Int)) = true by simpa using hi), Option.bind_some]
          by_cases hj : i < b.2.length
          · rw [if_pos (show decide ((i : Int) < (List.length b.2 : Int)) = true by simpa using hj)]
            simp only [Option.bind_some, idx_nat a.2 hi, idx_nat b.2 hj]
            rw [List.drop_eq_getElem_cons hi, List.drop_eq_getElem_cons hj]
            unfold cmpL
            by_cases g1 : a.2[i] < b.2[i]
            · simp [g1]
            · by_cases g2 : b.2[i] < a.2[i]
              · simp [g1, g2]
              · simp only [g1, g2, decide_false, Bool.false_eq_true, if_false]
                rw [w64_succ (by omega)]
                exact ih (i + 1) (by omega) (by omega) (by omega)
          · obtain rfl : i = b.2.length := by omega
            rw [if_neg (by simp), Option.bind_some, List.drop_length, List.drop_eq_getElem_cons hi]
            simp only
            rw [if_neg (by simp; omega), if_pos (by simpa using hi)]
            unfold cmpL; rfl
        · obtain rfl : i = a.2.length := by omega
          rw [if_neg (by simp), Option.bind_some, if_neg (by simp), Option.bind_some, List.drop_length]
          simp only
          by_cases hj : a.2.length < b.2.length
          · rw [List.drop_eq_getElem_cons hj]; unfold cmpL; simp [hj]
          · have : b.2.drop a.2.length = [] := List.drop_eq_nil_of_le (by omega)
            rw [this]; unfold cmpL; simp [hj]; omega
    have h9 := key FUEL 0 (by omega) (by omega) (by rw [FUEL_eq]; omega)
    rw [List.drop_zero, List.drop_zero] at h9
    exact h9
  · rw [if_pos (by simpa using h0)]
    unfold cmpF
    by_cases h1 : a.1 < b.1
    · simp [h1]
    · have : b.1 < a.1 := by omega
      simp [h1, this]
def cmpI (a b : Int) : Int := if a < b then -1 else if b < a then 1 else 0
/-! schemas and facts -/
def schOk (s : List Int) : Bool := s.all (fun n => inR n 1 3) && inR (s.length : Int) 1 3
theorem IsSchema_S (s : List Int) (h : s.length ≤ 4294967296) : S.IsSchema s = some (schOk s) := by
  unfold S.IsSchema schOk
  rw [all_loop (S.IsSchema_l1 s) s (fun n => inR n 1 3) false h (fun k => by rw [S.IsSchema_l1, if_neg (by simp)]) (fun k i hi => by
    rw [S.IsSchema_l1, if_pos (by simpa using hi), idx_nat s hi, Option.bind_some, inS, Option.bind_some, w64_succ (by omega)]
    cases inR s[i] 1 3 <;> rfl)]
  cases s.all (fun n => inR n 1 3)
  · rfl
  · simp [inS]
def valsOk (l : List Int) : Bool := l.all fun n => inR n 0 9
/-- the arity of a relation -/
def arity (s : List Int) (r : Int) : Int := s.getD r.toNat 0
def relOk (s : List Int) (r : Int) : Bool := schOk s && inR r 0 ((s.length : Int) - 1)
theorem idx_arity {s : List Int} {r : Int} (h : relOk s r = true) : idx s r = some (arity s r) := by
  unfold relOk at h
  rw [Bool.and_eq_true, inR_iff] at h
  obtain ⟨n, rfl⟩ : ∃ n : Nat, r = n := ⟨r.toNat, by omega⟩
  have hn : n < s.length := by omega
  rw [idx_nat s hn]
  unfold arity
  simp [hn]
def factOk (s : List Int) (f : Int × List Int) : Bool := relOk s f.1 && decide ((f.2.length : Int) = arity s f.1) && valsOk f.2
theorem sch_len {s : List Int} (h : schOk s = true) : 1 ≤ s.length ∧ s.length ≤ 3 := by
  unfold schOk at h; rw [Bool.and_eq_true, inR_iff] at h; omega
theorem cmpL_anti : ∀ (a b : List Int), cmpL b a = - cmpL a b
  | [], [] => rfl
  | [], _ :: _ => rfl
  | _ :: _, [] => rfl
  | x :: a, y :: b => by
    unfold cmpL
    by_cases h : x < y
    · have : ¬ y < x := by omega
      simp [h, this]
    · by_cases h2 : y < x
      · simp [h, h2]
      · simp only [h, h2, if_false]; exact cmpL_anti a b
theorem cmpF_anti (a b : Fa) : cmpF b a = - cmpF a b := by
  unfold cmpF
  by_cases h : a.1 < b.1
  · have : ¬ b.1 < a.1 := by omega
    simp [h, this]
  · by_cases h2 : b.1 < a.1
    · simp [h, h2]
    · simp only [h, h2, if_false]; exact cmpL_anti _ _
def hasF (l : List Fa) (f : Fa) : Bool := l.any fun e => decide (cmpF e f = 0)
theorem sm_v {l : List Fa} (h : SZ.sm l) {e : Fa} (he : e ∈ l) : e.2.length ≤ 4294967296 := by have := (h.2 e he).2.1; omega
theorem HasFact_S (l : List Fa) (f : Fa) (hl : SZ.sm l) (hf : SZ.sm f) : S.HasFact l f = some (hasF l f) := by
  have h1 := hl.1
  have h2 := hf.2.1
  unfold S.HasFact hasF
  rw [any_loop (S.HasFact_l1 l f) l (fun e => decide (cmpF e f = 0)) true (by omega) (fun k => by rw [S.HasFact_l1, if_neg (by simp)]) (fun k i hi => by
    have := CompareFacts_S l[i] f (sm_v hl (List.getElem_mem hi)) (by omega)
    rw [S.HasFact_l1, if_pos (by simpa using hi), idx_nat l hi, Option.bind_some, show (f.1, f.2) = f from rfl, this, Option.bind_some, w64_succ (by omega)])]
  cases l.any (fun e => decide (cmpF e f = 0)) <;> rfl
def gtF (f e : Fa) : Bool := decide (0 < cmpF e f)
def addF (l : List Fa) (f : Fa) : List Fa := if hasF l f then l else l.take (l.findIdx (gtF f)) ++ [f] ++ l.drop (l.findIdx (gtF f))
theorem findIdx_le {α : Type} (q : α → Bool) (l : List α) : l.findIdx q ≤ l.length := List.findIdx_le_length
theorem fidx_find {α : Type} (q : α → Bool) : ∀ (l : List α) (i : Nat), fidx q l i = if l.any q then ((i + l.findIdx q : Nat) : Int) else -1
  | [], i => by simp [fidx]
  | a :: l, i => by
    unfold fidx
    rw [List.findIdx_cons]
    cases h : q a
    · rw [fidx_find q l (i + 1)]
      simp only [Bool.false_eq_true, if_false, List.any_cons, h, Bool.false_or]
      split
      · simp only [cond_false]; congr 1; omega
      · rfl
    · simp [h]
theorem find_none {α : Type} (q : α → Bool) (l : List α) (h : l.any q = false) : l.findIdx q = l.length := by
  rw [List.findIdx_eq_length]
  intro x hx
  cases hq : q x
  · rfl
  · have := List.any_eq_true.2 ⟨x, hx, hq⟩; rw [h] at this; cases this
theorem sm_add {l : List Fa} {f : Fa} (hl : SZ.sm l) (hf : SZ.sm f) (hn : l.length + 1 ≤ 1048576) : SZ.sm (addF l f) := by
  unfold addF
  split
  · exact hl
  · refine ⟨by have := findIdx_le (gtF f) l; simp only [List.length_append, List.length_take, List.length_drop, List.length_cons, List.length_nil]; omega, fun e he => ?_⟩
    rcases List.mem_append.1 he with he | he
    · rcases List.mem_append.1 he with he | he
      · exact hl.2 e (List.mem_of_mem_take he)
      · simp at he; subst he; exact hf
    · exact hl.2 e (List.mem_of_mem_drop he)
theorem addF_len (l : List Fa) (f : Fa) : (addF l f).length ≤ l.length + 1 := by
  unfold addF
  split
  · omega
  · have := findIdx_le (gtF f) l; simp only [List.length_append, List.length_take, List.length_drop, List.length_cons, List.length_nil]; omega
theorem AddFact_S (l : List Fa) (f : Fa) (hl : SZ.sm l) (hf : SZ.sm f) : S.AddFact l f = some (addF l f) := by
  have h1 := hl.1
  have h2 := hf.2.1
  unfold S.AddFact
  rw [show (f.1, f.2) = f from rfl, HasFact_S l f hl hf, Option.bind_some]
  have hone : ∀ (i : Nat) (hi : i < l.length), S.l2One l[i].1 l[i].2 = some l[i] := fun i hi => l2One_eq _ _ (hl.2 _ (List.getElem_mem hi)).2.1
  have hc : ∀ (i : Nat) (hi : i < l.length), S.CompareFacts f l[i] = some (cmpF f l[i]) := fun i hi => CompareFacts_S f l[i] (by omega) (sm_v hl (List.getElem_mem hi))
  have hq : ∀ e : Fa, decide (cmpF f e < 0) = gtF f e := fun e => by unfold gtF; rw [cmpF_anti f e]; congr 1; exact propext ⟨fun h => by omega, fun h => by omega⟩
  unfold addF
  cases hasF l f
  · simp only [Bool.false_eq_true, if_false]
    generalize hp : l.findIdx (gtF f) = p
    have hple : p ≤ l.length := by rw [← hp]; exact findIdx_le _ _
    obtain ⟨k, s, g1, rfl⟩ := loop_inv0 (fun k (s : List Fa × Bool) i => S.AddFact_l1 l f k s.1 s.2 i) (fun i s => s = if p < i then (l.take p ++ [f] ++ (l.take i).drop p, true) else (l.take i, false)) l.length (by omega) (([] : List Fa), false) (by simp) (fun k i s hi hs => by
      subst hs
      refine ⟨_, ?_, rfl⟩
      have ht : l.take (i + 1) = l.take i ++ [l[i]] := by rw [List.take_add_one, List.getElem?_eq_getElem hi]; rfl
      by_cases c1 : p < i
      · have e1 : (l.take p ++ [f] ++ (l.take i).drop p) ++ [l[i]] = l.take p ++ [f] ++ (l.take (i + 1)).drop p := by
          rw [ht, List.drop_append_of_le_length (by rw [List.length_take]; omega), List.append_assoc]
        simp only [c1, if_true, show p < i + 1 by omega]
        rw [S.AddFact_l1, if_pos (by simpa using hi), idx_nat l hi]
        simp only [Bool.not_true, Bool.false_eq_true, if_false, Option.bind_some, hone i hi]
        rw [app_eq _ _ (by simp only [List.length_append, List.length_take, List.length_drop, List.length_cons, List.length_nil]; omega), Option.bind_some, w64_succ (by omega), show (l[i].1, l[i].2) = l[i] from rfl, e1]
      · have hgt : gtF f l[i] = decide (p = i) := by
          by_cases c2 : p = i
          · subst c2
            have := List.findIdx_getElem (xs := l) (p := gtF f) (w := by rw [hp]; exact hi)
            simp only [hp] at this
            rw [this]; simp
          · have h9 := List.not_of_lt_findIdx (xs := l) (p := gtF f) (i := i) (by omega)
            simp only [c2, decide_false]
            simpa using h9
        simp only [c1, if_false]
        rw [S.AddFact_l1, if_pos (by simpa using hi), idx_nat l hi]
        simp only [Bool.not_false, if_true, Option.bind_some, hc i hi, hq, hgt, hone i hi]
        by_cases c2 : p = i
        · subst c2
          simp only [decide_true, if_true, l2One_eq _ _ h2, Option.bind_some, show (f.1, f.2) = f from rfl, show p < p + 1 by omega]
          rw [app_eq _ _ (by simp only [List.length_take, List.length_cons, List.length_nil]; omega)]
          simp only [Option.bind_some]
          rw [app_eq _ _ (by simp only [List.length_append, List.length_take, List.length_cons, List.length_nil]; omega), Option.bind_some, w64_succ (by omega), show (l[p].1, l[p].2) = l[p] from rfl, ht, List.drop_append_of_le_length (by rw [List.length_take]; omega)]
          simp
        · simp only [c2, decide_false, Bool.false_eq_true, if_false, Option.bind_some, show ¬ p < i + 1 by omega]
          rw [app_eq _ _ (by simp only [List.length_take, List.length_cons, List.length_nil]; omega), Option.bind_some, w64_succ (by omega), show (l[i].1, l[i].2) = l[i] from rfl, ht])
    rw [g1]
    by_cases c1 : p < l.length
    · simp only [c1, if_true]
      rw [S.AddFact_l1, if_neg (by simp), Option.bind_some]
      simp
    · have : p = l.length := by omega
      subst this
      simp only [Nat.lt_irrefl, if_false]
      rw [S.AddFact_l1, if_neg (by simp), Option.bind_some]
      simp only [Bool.not_false, if_true, l2One_eq _ _ h2, Option.bind_some]
      rw [app_eq _ _ (by simp only [List.length_take, List.length_cons, List.length_nil]; omega)]
      simp
  · simp only [if_true]
    obtain ⟨k, s, g1, rfl⟩ := loop_inv0 (fun k (s : List Fa × Bool) i => S.AddFact_l1 l f k s.1 s.2 i) (fun i s => s = (l.take i, true)) l.length (by omega) (([] : List Fa), true) (by simp) (fun k i s hi hs => by
      subst hs
      refine ⟨_, ?_, rfl⟩
      show S.AddFact_l1 l f (k + 1) (l.take i) true i = S.AddFact_l1 l f k (l.take (i + 1)) true _
      rw [S.AddFact_l1, if_pos (by simpa using hi), idx_nat l hi]
      simp only [Bool.not_true, Bool.false_eq_true, if_false, Option.bind_some, hone i hi]
      rw [app_eq _ _ (by simp only [List.length_take, List.length_cons, List.length_nil]; omega), Option.bind_some, w64_succ (by omega), List.take_add_one, List.getElem?_eq_getElem hi]
      rfl)
    rw [g1]
    simp only
    rw [S.AddFact_l1, if_neg (by simp), Option.bind_some]
    simp

theorem shr7 (x : Int) (h0 : 0 ≤ x) (h1 : x < 2 ^ 62) : shr x 7 = w64 (x.tdiv 128) := by
  have h2 : x.tdiv 128 = x / 128 := Int.tdiv_eq_ediv_of_nonneg h0
  have h3 : shr x 7 = x / 128 := by
    unfold shr
    rw [Int.fdiv_eq_ediv_of_nonneg _ (by decide)]
    rfl
  rw [h2, h3, w64_id (by omega) (by omega)]
theorem w8_mod (x : Int) : w8 x = x % 256 := by
  unfold w8
  simp [IntKind.wrap, IntKind.bits, IntKind.signed]
theorem or128 (n : Nat) : ((BitVec.ofNat 8 n) ||| 128#8).toNat = 128 + n % 128 := by
  have h : ∀ b : BitVec 8, (b ||| 128#8).toNat = 128 + b.toNat % 128 := by decide +kernel
  rw [h]
  simp
theorem byte_same (x : Int) (h0 : 0 ≤ x) : UInt8.ofNat (Int.toNat (bor8 (w8 x) 128)) = u8 (w64 (128 + x.tmod 128)) := by
  have h2 : x.tmod 128 = x % 128 := Int.tmod_eq_emod_of_nonneg h0
  have h4 : w64 (128 + x.tmod 128) = 128 + x % 128 := by rw [h2, w64_id (by omega) (by omega)]
  have h5 : bor8 (w8 x) 128 = 128 + x % 128 := by
    unfold bor8
    rw [w8_eq, w8_mod, w8_mod]
    have e1 : BitVec.ofInt 8 (x % 256) = BitVec.ofNat 8 (x % 256).toNat := by
      rw [← BitVec.ofInt_natCast]; congr 1; omega
    have e2 : BitVec.ofInt 8 128 = 128#8 := rfl
    rw [e1, e2, or128]
    omega
  rw [h5, h4]
  unfold u8
  rw [w8_mod]
  congr 1
  omega
/-- the bytes of a number -/
def enc (n : Nat) : List UInt8 := if h : n < 128 then [UInt8.ofNat n] else UInt8.ofNat (128 + n % 128) :: enc (n / 128)
termination_by n
decreasing_by omega
theorem u8_nat (x : Int) (h0 : 0 ≤ x) (h1 : x < 256) : u8 x = UInt8.ofNat x.toNat := by
  unfold u8; rw [w8_mod]; congr 1; omega
theorem enc_len : ∀ (b x : Nat), x < 128 ^ (b + 1) → (enc x).length ≤ b + 1 := by
  intro b
  induction b with
  | zero => intro x h; rw [enc, dif_pos (by simpa using h)]; simp
  | succ b ih =>
    intro x h
    rw [enc]
    split
    · simp
    · rw [Nat.pow_succ] at h
      generalize 128 ^ (b + 1) = P at h ih
      have := ih (x / 128) (by omega)
      simp only [List.length_cons]; omega
/-- the number of some bytes -/
def vv : List UInt8 → Nat
  | [] => 0
  | b :: l => b.toNat % 128 + 128 * vv l
/-- bytes that a number may have -/
def okG : Bool → List UInt8 → Bool
  | _, [] => false
  | f, [b] => decide (b.toNat < 128) && (f || decide (b.toNat ≠ 0))
  | _, b :: c :: l => decide (128 ≤ b.toNat) && okG false (c :: l)
theorem enc_ok : ∀ (k n : Nat) (f : Bool), n ≤ k → (f = true ∨ 0 < n) → okG f (enc n) = true := by
  intro k
  induction k with
  | zero => intro n f h h2; obtain rfl : n = 0 := by omega
            rcases h2 with rfl | h2
            · rw [enc, dif_pos (by omega)]; rfl
            · omega
  | succ k ih =>
    intro n f h h2
    rw [enc]
    by_cases hn : n < 128
    · rw [dif_pos hn]
      unfold okG
      have : (UInt8.ofNat n).toNat = n := by simp; omega
      rw [this]
      rcases h2 with rfl | h2
      · simp [hn]
      · have : n ≠ 0 := by omega
        simp [hn, this]
    · rw [dif_neg hn]
      have h3 := ih (n / 128) false (by omega) (by right; omega)
      have h4 : (UInt8.ofNat (128 + n % 128)).toNat = 128 + n % 128 := by simp; omega
      generalize he : enc (n / 128) = e at h3
      cases e with
      | nil => simp [okG] at h3
      | cons c l =>
        unfold okG
        rw [h4, h3]; simp
theorem ok_pos : ∀ l : List UInt8, okG false l = true → 0 < vv l
  | [], h => by simp [okG] at h
  | [b], h => by simp [okG, vv] at h ⊢; omega
  | b :: c :: l, h => by
    simp only [okG, Bool.and_eq_true] at h
    have := ok_pos (c :: l) h.2
    rw [vv]; omega
theorem ok_enc : ∀ (l : List UInt8) (f : Bool), okG f l = true → enc (vv l) = l
  | [], f, h => by simp [okG] at h
  | [b], f, h => by
    simp only [okG, Bool.and_eq_true, decide_eq_true_eq] at h
    rw [enc, dif_pos (by simp [vv]; omega)]
    have e : vv [b] = b.toNat := by simp [vv]; omega
    rw [e]; simp
  | b :: c :: l, f, h => by
    simp only [okG, Bool.and_eq_true, decide_eq_true_eq] at h
    have h1 := ok_pos _ h.2
    have h2 := ok_enc (c :: l) false h.2
    have hb := b.toNat_lt
    have e : vv (b :: c :: l) = b.toNat % 128 + 128 * vv (c :: l) := rfl
    rw [e, enc, dif_neg (by omega), show (b.toNat % 128 + 128 * vv (c :: l)) / 128 = vv (c :: l) by omega, h2, show 128 + (b.toNat % 128 + 128 * vv (c :: l)) % 128 = b.toNat by omega]
    simp
theorem enc_vv (l : List UInt8) : (enc (vv l) = l) ↔ okG true l = true :=
  ⟨fun h => h ▸ enc_ok _ _ true (Nat.le_refl _) (.inl rfl), fun h => ok_enc l true h⟩
theorem vv_lt : ∀ l : List UInt8, vv l < 128 ^ l.length
  | [] => by simp [vv]
  | b :: l => by
    have := vv_lt l
    rw [vv, List.length_cons, Nat.pow_succ]
    generalize 128 ^ l.length = P at this
    omega
theorem vv_snoc : ∀ (l : List UInt8) (b : UInt8), vv (l ++ [b]) = vv l + b.toNat % 128 * 128 ^ l.length
  | [], b => by simp [vv]
  | a :: l, b => by
    rw [List.cons_append, vv, vv_snoc l b, vv, List.length_cons, Nat.pow_succ, Nat.mul_add]
    have : 128 * (b.toNat % 128 * 128 ^ l.length) = b.toNat % 128 * (128 ^ l.length * 128) := by
      rw [Nat.mul_left_comm, Nat.mul_comm 128 (128 ^ l.length)]
    omega
/-! reading -/
theorem okG_snoc : ∀ (l : List UInt8) (b : UInt8) (f : Bool), okG f (l ++ [b]) = (l.all (fun c => decide (128 ≤ c.toNat)) && (decide (b.toNat < 128) && ((f && l.isEmpty) || decide (b.toNat ≠ 0))))
  | [], b, f => by simp [okG]
  | [x], b, f => by simp [okG]
  | x :: y :: l, b, f => by
    have := okG_snoc (y :: l) b false
    rw [List.cons_append] at this
    rw [List.cons_append, List.cons_append, okG, this]
    simp [Bool.and_assoc]
def hD (a : List UInt8) (i : Nat) : Option (Int × Int) := if okG true (a.take (i + 1)) then some (((vv (a.take (i + 1)) : Nat) : Int), ((i + 1 : Nat) : Int)) else none
def dcd (a : List UInt8) : Int × Int := ((List.range (min 7 a.length)).findSome? (hD a)).getD (0, 0)
theorem take_snoc {α : Type} (a : List α) {i : Nat} (h : i < a.length) : a.take (i + 1) = a.take i ++ [a[i]] := by rw [List.take_add_one, List.getElem?_eq_getElem h]; rfl
def eqS (x y : Str) : Bool := decide (x = y)
theorem eqS_iff' (x y : Str) : eqS x y = true ↔ x = y := by
  unfold eqS; rw [decide_eq_true_eq]
theorem eqS_iff (x y : List UInt8) : eqS x y = true ↔ x = y := eqS_iff' x y
theorem sum_loop {β : Type} (f : Nat → Int → Option (Sum Unit β)) (n : Nat) (h : Nat → Option β) (hn : n ≤ 4294967296) (he : ∀ k, f (k + 1) (n : Int) = some (.inl ()))
    (hs : ∀ k (i : Nat), i < n → f (k + 1) (i : Int) = (match h i with | some b => some (.inr b) | none => f k ((i + 1 : Nat) : Int))) :
    f FUEL 0 = some (match (List.range n).findSome? h with | some b => .inr b | none => .inl ()) := by
  have key : ∀ (K i : Nat), i ≤ n → n < i + K → f K (i : Int) = some (match ((List.range n).drop i).findSome? h with | some b => .inr b | none => .inl ()) := by
    intro K
    induction K with
    | zero => intro i h1 h2; omega
    | succ K ih =>
      intro i h1 h2
      by_cases hi : i < n
      · rw [hs K i hi, List.drop_eq_getElem_cons (by simpa using hi), List.findSome?_cons, List.getElem_range]
        cases h i with
        | some b => rfl
        | none => exact ih (i + 1) (by omega) (by omega)
      · obtain rfl : i = n := by omega
        have e0 : (List.range i).drop i = [] := List.drop_eq_nil_of_le (by simp)
        rw [he, e0]; rfl
  have := key FUEL 0 (by omega) (by rw [FUEL_eq]; omega)
  simpa using this
theorem vv_take_lt (a : List UInt8) {i : Nat} (h : i < 7) : vv (a.take (i + 1)) < 562949953421312 := by
  refine Nat.lt_of_lt_of_le (vv_lt _) (Nat.le_trans (Nat.pow_le_pow_right (by omega) (?_ : _ ≤ 7)) (by decide))
  rw [List.length_take]; omega
theorem and127 (b : UInt8) : w64 (band8 (UInt8.toNat b : Int) 127) = ((b.toNat % 128 : Nat) : Int) := by
  have h : ∀ c : BitVec 8, (c &&& 127#8).toNat = c.toNat % 128 := by decide +kernel
  have hb := b.toNat_lt
  have e : band8 (UInt8.toNat b : Int) 127 = ((b.toNat % 128 : Nat) : Int) := by
    unfold band8
    rw [w8_eq, w8_mod]
    have e1 : BitVec.ofInt 8 (b.toNat : Int) = BitVec.ofNat 8 b.toNat := by rw [← BitVec.ofInt_natCast]
    have e2 : BitVec.ofInt 8 127 = 127#8 := rfl
    rw [e1, e2, h]
    simp only [BitVec.toNat_ofNat]
    omega
  rw [e, w64_id (by omega) (by omega)]
theorem bor_add (x y i : Nat) (hx : x < 128 ^ i) (hy : y < 128) (hi : i < 7) : bor (x : Int) (shl (y : Int) (w64 (7 * (i : Int)))) = ((x + y * 128 ^ i : Nat) : Int) := by
  have hP : 128 ^ i ≤ 128 ^ 6 := Nat.pow_le_pow_right (by omega) (by omega)
  have hP' : 128 ^ i ≤ 4398046511104 := hP
  have hm : y * 128 ^ i ≤ 127 * 128 ^ i := Nat.mul_le_mul_right _ (by omega)
  have e1 : shl (y : Int) (w64 (7 * (i : Int))) = ((y * 128 ^ i : Nat) : Int) := by
    unfold shl
    rw [w64_sm (n := 7 * (i : Int)) (by omega) (by omega), show (7 * (i : Int)).toNat = 7 * i by omega, Nat.min_eq_left (by omega)]
    have e2 : (2 : Int) ^ (7 * i) = ((128 ^ i : Nat) : Int) := by
      rw [Int.pow_mul]; simp
    rw [e2, ← Int.natCast_mul, w64_id (by omega) (by omega)]
  rw [e1]
  unfold bor
  rw [w64_eq]
  have e3 : (BitVec.ofInt 64 (x : Int) ||| BitVec.ofInt 64 ((y * 128 ^ i : Nat) : Int)).toNat = x + y * 128 ^ i := by
    rw [BitVec.ofInt_natCast, BitVec.ofInt_natCast, BitVec.toNat_or, BitVec.toNat_ofNat, BitVec.toNat_ofNat, Nat.mod_eq_of_lt (by omega), Nat.mod_eq_of_lt (by omega)]
    have e4 : (128 : Nat) ^ i = 2 ^ (7 * i) := by rw [Nat.pow_mul]
    rw [e4] at hx ⊢
    have := Nat.two_pow_add_eq_or_of_lt hx y
    rw [Nat.or_comm, Nat.mul_comm y, ← this]; omega
  rw [e3, w64_id (by omega) (by omega)]
theorem hD_snoc (a : List UInt8) {i : Nat} (h : i < a.length) : okG true (a.take (i + 1)) = ((a.take i).all (fun c => decide (128 ≤ c.toNat)) && (decide (a[i].toNat < 128) && (decide (i = 0) || decide (a[i].toNat ≠ 0)))) := by
  rw [take_snoc a h, okG_snoc]
  congr 3
  rw [Bool.true_and, Bool.eq_iff_iff, List.isEmpty_iff, decide_eq_true_eq]
  rw [List.take_eq_nil_iff]
  refine ⟨fun h => h.elim id (fun h => ?_), .inl⟩
  subst h; simp at *
theorem findSome_none {α β : Type} (l : List α) (f : α → Option β) (h : ∀ a ∈ l, f a = none) : l.findSome? f = none := by
  induction l with
  | nil => rfl
  | cons a l ih => rw [List.findSome?_cons, h a (List.mem_cons_self ..)]; exact ih (fun b hb => h b (List.mem_cons_of_mem _ hb))
theorem dcd_r (a : List UInt8) : dcd a = (0, 0) ∨ ∃ n s : Nat, dcd a = ((n : Int), (s : Int)) ∧ n < 562949953421312 ∧ 1 ≤ s ∧ s ≤ 7 ∧ s ≤ a.length := by
  unfold dcd
  cases h : (List.range (min 7 a.length)).findSome? (hD a) with
  | none => exact .inl rfl
  | some r =>
    obtain ⟨i, hi, h2⟩ := List.exists_of_findSome?_eq_some h
    rw [List.mem_range] at hi
    unfold hD at h2
    split at h2
    · cases h2
      exact .inr ⟨_, _, rfl, vv_take_lt a (by omega), by omega, by omega, by omega⟩
    · cases h2

def hiB (a : List UInt8) : Bool := a.all fun c => !decide ((c.toNat : Int) < 128)
abbrev Li := List UInt8
abbrev SF := List Li × Li × Bool
def catL (a b : Li) : Option Li := cat a b
def eqL (a b : Li) : Bool := eqS a b
theorem eqL_iff (x y : Li) : eqL x y = true ↔ x = y := eqS_iff x y
theorem catL_eq (a b : Li) (h : a.length + b.length ≤ 4294967296) : catL a b = some (a ++ b) := cat_ok a b h
def fS (o : Sum (List Li) SF) : Option SF := match o with
  | .inl x3 => some (x3, [], true)
  | .inr r => some r
def fM (o : Sum (Li × List Li) SF) : Option SF := match o with
  | .inl (x3, x4) => some (x4, x3, true)
  | .inr r => some r
def smF (r : SF) : Prop := (r.1.length ≤ 1048576 ∧ ∀ e ∈ r.1, e.length ≤ 1048576) ∧ r.2.1.length ≤ 1048576
theorem sm_app1 {l : List Li} {x : Li} (hl : ∀ e ∈ l, e.length ≤ 1048576) (hx : x.length ≤ 1048576) : ∀ e ∈ l ++ [x], e.length ≤ 1048576 := fun e he => by
  rcases List.mem_append.1 he with he | he
  · exact hl e he
  · rw [List.mem_singleton] at he; subst he; exact hx
theorem sub_nat {α : Type} (a : List α) (i j : Nat) (h : i ≤ j) (h2 : j ≤ a.length) : sub a (i : Int) (j : Int) = some ((a.take j).drop i) := by
  unfold sub; rw [if_pos ⟨by omega, by omega, by omega⟩]; simp

/-- what is left may be the beginning of a frame -/
def okEnd (a : Li) : Bool :=
  let n := (dcd a).1.toNat; let s := (dcd a).2.toNat
  if s = 0 then hiB a && decide (a.length ≤ 3) else decide (n ≤ 200) && decide (a.length < s + n + 1)
/-! pieces -/
theorem hiB_prefix {p q : Li} (h : hiB (p ++ q) = true) : hiB p = true := by
  unfold hiB at h ⊢
  rw [List.all_append, Bool.and_eq_true] at h
  exact h.1
theorem hD_prefix (p q : Li) {i : Nat} (h : i < p.length) : hD (p ++ q) i = hD p i := by
  unfold hD
  rw [List.take_append_of_le_length (by omega)]
theorem dcd_find (a : Li) {i : Nat} (hi : i < min 7 a.length) (h : okG true (a.take (i + 1)) = true) (hno : ∀ j, j < i → okG true (a.take (j + 1)) = false) : dcd a = (((vv (a.take (i + 1)) : Nat) : Int), ((i + 1 : Nat) : Int)) := by
  unfold dcd
  have : (List.range (min 7 a.length)).findSome? (hD a) = some (((vv (a.take (i + 1)) : Nat) : Int), ((i + 1 : Nat) : Int)) := by
    have hsplit : List.range (min 7 a.length) = List.range i ++ (i :: (List.range (min 7 a.length)).drop (i + 1)) := by
      conv => lhs; rw [← List.take_append_drop i (List.range (min 7 a.length))]
      rw [List.take_range, Nat.min_eq_left (by omega), List.drop_eq_getElem_cons (by simpa using hi), List.getElem_range]
    rw [hsplit, List.findSome?_append, findSome_none _ _ (fun j hj => by
      unfold hD; rw [hno j (List.mem_range.1 hj)]; rfl), Option.none_or, List.findSome?_cons]
    unfold hD
    rw [if_pos h]
  rw [this]; rfl
theorem dcd_none (a : Li) (hno : ∀ j, j < min 7 a.length → okG true (a.take (j + 1)) = false) : dcd a = (0, 0) := by
  unfold dcd
  rw [findSome_none _ _ (fun j hj => by unfold hD; rw [hno j (List.mem_range.1 hj)]; rfl)]; rfl
/-- how a number that is read stands -/
theorem dcd_at {a : Li} {n s : Nat} (h : dcd a = ((n : Int), (s : Int))) (hs : 1 ≤ s) : s ≤ min 7 a.length ∧ n = vv (a.take s) ∧ okG true (a.take s) = true ∧ ∀ j, j < s - 1 → okG true (a.take (j + 1)) = false := by
  unfold dcd at h
  cases hf : (List.range (min 7 a.length)).findSome? (hD a) with
  | none => rw [hf] at h; simp at h; omega
  | some r =>
    rw [hf] at h
    obtain ⟨l1, i, l2, e1, e2, e3⟩ := List.findSome?_eq_some_iff.1 hf
    have hmem : i ∈ List.range (min 7 a.length) := by rw [e1]; simp
    have hi := List.mem_range.1 hmem
    have hl1 : l1 = List.range i := by
      have hlen : l1.length = i := by
        have := congrArg (fun l => l[l1.length]?) e1
        simp only [List.getElem?_append_right (Nat.le_refl _), Nat.sub_self, List.getElem?_cons_zero] at this
        rw [List.getElem?_range (by
          by_cases hc : l1.length < min 7 a.length
          · exact hc
          · rw [List.getElem?_eq_none (by simpa using hc)] at this; cases this)] at this
        exact Option.some.inj this
      have := congrArg (fun l => l.take l1.length) e1
      simp only [List.take_left'] at this
      rw [List.take_range, hlen, Nat.min_eq_left (by omega)] at this
      simpa using this.symm
    unfold hD at e2
    split at e2
    · rename_i hok
      cases e2
      simp only [Option.getD_some, Prod.mk.injEq] at h
      obtain ⟨h1, h2⟩ := h
      obtain rfl : s = i + 1 := by omega
      refine ⟨by omega, by omega, hok, fun j hj => ?_⟩
      have := e3 j (by rw [hl1]; exact List.mem_range.2 (by omega))
      unfold hD at this
      split at this
      · cases this
      · exact Bool.eq_false_iff.2 (by assumption)
    · cases e2
theorem enc_len2 {n : Nat} (h : n ≤ 200) : (enc n).length ≤ 2 := enc_len 1 n (by simp; omega)
theorem dcd_prefix {p q : Li} {n s : Nat} (h : dcd (p ++ q) = ((n : Int), (s : Int))) (hs : 1 ≤ s) (hn : n ≤ 200) :
    (s ≤ p.length ∧ dcd p = ((n : Int), (s : Int))) ∨ (p.length < s ∧ dcd p = (0, 0) ∧ hiB p = true ∧ p.length ≤ 3) := by
  obtain ⟨h1, h2, h3, h4⟩ := dcd_at h hs
  by_cases hc : s ≤ p.length
  · left
    have e : ∀ j, j < s → (p ++ q).take (j + 1) = p.take (j + 1) := fun j hj => List.take_append_of_le_length (by omega)
    have es : (p ++ q).take s = p.take s := List.take_append_of_le_length hc
    refine ⟨hc, ?_⟩
    have := dcd_find p (i := s - 1) (by omega) (by rw [show s - 1 + 1 = s by omega, ← es]; exact h3) (fun j hj => by rw [← e j (by omega)]; exact h4 j (by omega))
    rw [show s - 1 + 1 = s by omega, ← es, ← h2] at this
    exact this
  · right
    have hlen : s ≤ 2 := by
      have h5 := (enc_vv _).2 h3
      rw [← h2] at h5
      have h6 := enc_len2 hn
      rw [h5, List.length_take] at h6
      omega
    have hall : ((p ++ q).take (s - 1)).all (fun c => decide (128 ≤ c.toNat)) = true := by
      have := hD_snoc (p ++ q) (i := s - 1) (by omega)
      rw [show s - 1 + 1 = s by omega, h3] at this
      have := this.symm
      rw [Bool.and_eq_true] at this
      exact this.1
    refine ⟨by omega, dcd_none p (fun j hj => ?_), ?_, by omega⟩
    · have := h4 j (by omega)
      rwa [List.take_append_of_le_length (by omega)] at this
    · unfold hiB
      rw [List.all_eq_true] at hall ⊢
      intro c hcm
      have hmem : c ∈ (p ++ q).take (s - 1) := by
        rw [List.take_append]
        exact List.mem_append_left _ (by rw [List.take_of_length_le (by omega)]; exact hcm)
      have := hall c hmem
      simp at this ⊢
      omega
theorem dcd_hi {p : Li} (h : hiB p = true) : dcd p = (0, 0) := by
  refine dcd_none p (fun j hj => ?_)
  rw [hD_snoc p (i := j) (by omega)]
  have : ¬ (p[j]'(by omega)).toNat < 128 := by
    unfold hiB at h
    rw [List.all_eq_true] at h
    have := h _ (List.getElem_mem (show j < p.length by omega))
    simp at this
    omega
  rw [decide_eq_false this]
  simp
abbrev Code := List UInt8
theorem band255 (x : Int) : 0 ≤ band x 255 ∧ band x 255 ≤ 255 := by
  unfold band
  rw [w64_eq]
  have h : (BitVec.ofInt 64 x &&& BitVec.ofInt 64 255).toNat ≤ 255 := by
    rw [BitVec.toNat_and]; exact Nat.and_le_right
  rw [w64_id (by omega) (by omega)]
  omega
/-- a place in the code -/
def Pos (a : Code) (p : Int) : Prop := 0 ≤ p ∧ p ≤ (a.length : Int)
theorem byte_ok (a : Code) (p s : Int) (ha : a.length ≤ 1048576) (hp : Pos a p) : ∃ v q t, S.l1Byte (a, p, s) = some (v, (a, q, t)) ∧ 0 ≤ v ∧ v ≤ 255 ∧ Pos a q := by
  unfold S.l1Byte
  obtain ⟨h0, h1⟩ := hp
  by_cases h : p < (a.length : Int)
  · obtain ⟨i, rfl⟩ : ∃ i : Nat, p = i := ⟨p.toNat, by omega⟩
    have hi : i < a.length := by omega
    rw [if_pos (by simpa using hi), idx_nat a hi, Option.bind_some, Option.bind_some]
    exact ⟨_, _, _, rfl, (band255 _).1, (band255 _).2, by rw [w64_succ (by omega)]; exact ⟨by omega, by omega⟩⟩
  · rw [if_neg (by simpa using h), Option.bind_some]
    exact ⟨_, _, _, rfl, (band255 _).1, (band255 _).2, h0, h1⟩
theorem below_ok (a : Code) (p s n : Int) (ha : a.length ≤ 1048576) (hp : Pos a p) (h0 : 0 < n) (h1 : n ≤ 256) : ∃ v q t, S.l1Below (a, p, s) n = some (v, (a, q, t)) ∧ 0 ≤ v ∧ v < n ∧ Pos a q := by
  obtain ⟨v, q, t, e, v0, v1, hq⟩ := byte_ok a p s ha hp
  unfold S.l1Below
  have hz : nz n = some () := by unfold nz; rw [if_neg (by omega)]
  rw [if_neg (by simp; omega), if_pos (by simpa using h1), e, Option.bind_some, hz, Option.bind_some]
  refine ⟨_, _, _, rfl, ?_, ?_, hq⟩
  · rw [Int.tmod_eq_emod_of_nonneg v0]; exact Int.emod_nonneg _ (by omega)
  · rw [Int.tmod_eq_emod_of_nonneg v0]; exact Int.emod_lt_of_pos _ h0
theorem pick_ok (a : Code) (p s : Int) (l : List Int) (ha : a.length ≤ 1048576) (hp : Pos a p) (h0 : 0 < l.length) (h1 : l.length ≤ 256) : ∃ v q t, S.l1PickInt (a, p, s) l = some (v, (a, q, t)) ∧ v ∈ l ∧ Pos a q := by
  obtain ⟨v, q, t, e, v0, v1, hq⟩ := below_ok a p s (l.length : Int) ha hp (by omega) (by omega)
  unfold S.l1PickInt
  obtain ⟨i, rfl⟩ : ∃ i : Nat, v = i := ⟨v.toNat, by omega⟩
  have hi : i < l.length := by omega
  rw [e, Option.bind_some, idx_nat l hi, Option.bind_some]
  exact ⟨_, _, _, rfl, List.getElem_mem hi, hq⟩
theorem new_ok (a : Code) (ha : a.length ≤ 1048576) : ∃ t, S.l1New a = some (a, 0, t) := by
  unfold S.l1New
  have key : ∀ (K i : Nat) (x : Int), i ≤ a.length → a.length < i + K → ∃ t, S.l1New_l1 a K x (i : Int) = some t := by
    intro K
    induction K with
    | zero => intro i x h1 h2; omega
    | succ K ih =>
      intro i x h1 h2
      rw [S.l1New_l1]
      by_cases hi : i < a.length
      · rw [if_pos (by simpa using hi), Option.bind_some]
        by_cases h4 : (i : Int) < 4000
        · rw [if_pos (by simpa using h4), idx_nat a hi, Option.bind_some, w64_succ (by omega)]
          exact ih (i + 1) _ (by omega) (by omega)
        · rw [if_neg (by simpa using h4)]; exact ⟨_, rfl⟩
      · rw [if_neg (by simpa using hi), Option.bind_some, if_neg (by simp)]; exact ⟨_, rfl⟩
  obtain ⟨t, h⟩ := key FUEL 0 (w64 (10101 + (a.length : Int))) (by omega) (by rw [FUEL_eq]; omega)
  have h' : S.l1New_l1 a FUEL (w64 (10101 + (a.length : Int))) 0 = some t := h
  rw [h']
  exact ⟨t, rfl⟩

abbrev Mf := Int × List Int × Int × Int × Int
theorem once_ok (a : Code) (p s n : Int) (ha : a.length ≤ 1048576) (hp : Pos a p) (h0 : 0 < n) (h1 : n ≤ 256) : ∃ (b : Bool) (q t : Int), S.l1Once (a, p, s) n = some (b, (a, q, t)) ∧ Pos a q := by
  obtain ⟨v, q, t, e, -, -, hq⟩ := below_ok a p s n ha hp h0 h1
  unfold S.l1Once
  rw [e, Option.bind_some]
  exact ⟨_, _, _, rfl, hq⟩
theorem below_big (a : Code) (p s n : Int) (ha : a.length ≤ 1048576) (hp : Pos a p) (h0 : 0 < n) : ∃ v q t, S.l1Below (a, p, s) n = some (v, (a, q, t)) ∧ 0 ≤ v ∧ v < n ∧ Pos a q := by
  by_cases h1 : n ≤ 256
  · exact below_ok a p s n ha hp h0 h1
  · obtain ⟨v1, q1, t1, e1, a1, b1, p1⟩ := byte_ok a p s ha hp
    obtain ⟨v2, q2, t2, e2, a2, b2, p2⟩ := byte_ok a q1 t1 ha p1
    obtain ⟨v3, q3, t3, e3, a3, b3, p3⟩ := byte_ok a q2 t2 ha p2
    obtain ⟨v4, q4, t4, e4, a4, b4, p4⟩ := byte_ok a q3 t3 ha p3
    unfold S.l1Below
    have hz : nz n = some () := by unfold nz; rw [if_neg (by omega)]
    rw [if_neg (by simp; omega), if_neg (by simpa using h1), e1, Option.bind_some]
    simp only
    rw [e2, Option.bind_some]
    simp only
    rw [e3, Option.bind_some]
    simp only
    rw [e4, Option.bind_some, hz, Option.bind_some]
    simp only
    have hw : w64 (w64 (w64 (w64 (v1 * 16777216) + w64 (v2 * 65536)) + w64 (v3 * 256)) + v4) = v1 * 16777216 + v2 * 65536 + v3 * 256 + v4 := by
      rw [w64_id (n := v1 * 16777216) (by omega) (by omega), w64_id (n := v2 * 65536) (by omega) (by omega), w64_id (n := v3 * 256) (by omega) (by omega), w64_id (n := v1 * 16777216 + v2 * 65536) (by omega) (by omega), w64_id (n := v1 * 16777216 + v2 * 65536 + v3 * 256) (by omega) (by omega), w64_id (by omega) (by omega)]
    rw [hw]
    refine ⟨_, _, _, rfl, ?_, ?_, p4⟩
    · rw [Int.tmod_eq_emod_of_nonneg (by omega)]; exact Int.emod_nonneg _ (by omega)
    · rw [Int.tmod_eq_emod_of_nonneg (by omega)]; exact Int.emod_lt_of_pos _ h0
theorem w64_down (n : Nat) (h : n < 4294967296) : w64 (((n + 1 : Nat) : Int) - 1) = (n : Int) := by rw [w64_sm (by omega) (by omega)]; omega
theorem schema_loop (a : Code) (ha : a.length ≤ 1048576) (c : Code × Int × Int) (hc : c.1 = a) : ∀ (n K : Nat) (p s : Int) (l : List Int), n < K → l.length + n ≤ 100 → (∀ x ∈ l, 1 ≤ x ∧ x ≤ 3) → Pos a p → ∃ q t m, S.l2Schema_l1 c K p s l (n : Int) = some (q, t, m) ∧ m.length = l.length + n ∧ (∀ x ∈ m, 1 ≤ x ∧ x ≤ 3) ∧ Pos a q := by
  intro n
  induction n with
  | zero =>
    intro K p s l hK hl hm hp
    obtain ⟨K, rfl⟩ : ∃ k, K = k + 1 := ⟨K - 1, by omega⟩
    rw [S.l2Schema_l1, if_neg (by simp)]
    exact ⟨_, _, _, rfl, by omega, hm, hp⟩
  | succ n ih =>
    intro K p s l hK hl hm hp
    obtain ⟨K, rfl⟩ : ∃ k, K = k + 1 := ⟨K - 1, by omega⟩
    obtain ⟨v1, q1, t1, e1, h0, h1, p1⟩ := below_ok a p s 2 ha hp (by omega) (by omega)
    obtain ⟨b2, q2, t2, e2, p2⟩ := once_ok a q1 t1 4 ha p1 (by omega) (by omega)
    rw [S.l2Schema_l1, if_pos (decide_eq_true (by omega)), hc, e1, Option.bind_some]
    simp only
    rw [e2, Option.bind_some]
    simp only
    have hx : ∃ x, (if b2 = true then some (3 : Int) else some (w64 (1 + v1))) = some x ∧ 1 ≤ x ∧ x ≤ 3 := by
      cases b2
      · exact ⟨_, rfl, by rw [w64_sm (by omega) (by omega)]; omega, by rw [w64_sm (by omega) (by omega)]; omega⟩
      · exact ⟨3, rfl, by omega, by omega⟩
    obtain ⟨x, hx1, hx2⟩ := hx
    rw [hx1, Option.bind_some, app_eq _ _ (by simp; omega), Option.bind_some, w64_down n (by omega)]
    obtain ⟨q, t, m, g1, g2, g3, g4⟩ := ih K q2 t2 (l ++ [x]) (by omega) (by simp; omega) (fun y hy => by
      rcases List.mem_append.1 hy with hy | hy
      · exact hm y hy
      · rw [List.mem_singleton] at hy; subst hy; exact hx2) p2
    exact ⟨q, t, m, g1, by rw [g2]; simp; omega, g3, g4⟩
theorem schema_ok (a : Code) (p s : Int) (ha : a.length ≤ 1048576) (hp : Pos a p) : ∃ (m : List Int) (q t : Int), S.l2Schema (a, p, s) = some (m, (a, q, t)) ∧ schOk m = true ∧ m.length ≤ 3 ∧ Pos a q := by
  obtain ⟨v1, q1, t1, e1, h0, h1, p1⟩ := below_ok a p s 3 ha hp (by omega) (by omega)
  obtain ⟨n, rfl⟩ : ∃ n : Nat, v1 = n := ⟨v1.toNat, by omega⟩
  obtain ⟨q2, t2, m, e2, hl, hm, p2⟩ := schema_loop a ha (a, p, s) rfl (n + 1) FUEL q1 t1 [] (by rw [FUEL_eq]; omega) (by simp; omega) (fun x hx => by cases hx) p1
  unfold S.l2Schema
  rw [e1, Option.bind_some]
  simp only
  have e3 : w64 (1 + (n : Int)) = ((n + 1 : Nat) : Int) := by rw [w64_sm (by omega) (by omega)]; omega
  rw [e3, e2]
  simp only [List.length_nil, Nat.zero_add] at hl
  refine ⟨m, q2, t2, rfl, ?_, by omega, p2⟩
  unfold schOk
  rw [Bool.and_eq_true, List.all_eq_true, inR_iff]
  exact ⟨fun x hx => inR_iff.2 (hm x hx), by omega⟩
theorem anySchema_ok (a : Code) (p s : Int) (ha : a.length ≤ 1048576) (hp : Pos a p) : ∃ (m : List Int) (q t : Int), S.l2AnySchema (a, p, s) = some (m, (a, q, t)) ∧ Pos a q := by
  obtain ⟨m, q1, t1, e1, -, hl, p1⟩ := schema_ok a p s ha hp
  obtain ⟨b, q2, t2, e2, p2⟩ := once_ok a q1 t1 14 ha p1 (by omega) (by omega)
  unfold S.l2AnySchema
  rw [e1, Option.bind_some]
  simp only
  rw [e2, Option.bind_some]
  simp only
  cases b
  · exact ⟨m, q2, t2, rfl, p2⟩
  · obtain ⟨v, q3, t3, e3, -, p3⟩ := pick_ok a q2 t2 [0, 1, 4] ha p2 (by simp) (by simp)
    rw [if_pos rfl, e3, Option.bind_some, app_eq _ _ (by simp; omega)]
    exact ⟨_, q3, t3, rfl, p3⟩
theorem sch_arity {sc : List Int} (h : schOk sc = true) {i : Nat} (hi : i < sc.length) : 1 ≤ sc[i] ∧ sc[i] ≤ 3 := by
  unfold schOk at h
  rw [Bool.and_eq_true, List.all_eq_true] at h
  exact inR_iff.1 (h.1 _ (List.getElem_mem hi))
theorem fact_loop (a : Code) (ha : a.length ≤ 1048576) (sc : List Int) (c : Code × Int × Int) (hc : c.1 = a) (w : Int) (hw : 0 < w ∧ w ≤ 256) (r : Nat) (hr : r < sc.length) (ar : Nat) (har : sc[r] = (ar : Int)) (h3 : ar ≤ 3) :
    ∀ (n K : Nat) (p s : Int) (l : List Int) (i : Nat), i + n = ar → l.length = i → n < K → Pos a p → ∃ q t m, S.l2Fact_l1 sc c w K (r : Int) l p s (i : Int) = some ((r : Int), m, q, t) ∧ m.length = ar ∧ Pos a q := by
  intro n
  induction n with
  | zero =>
    intro K p s l i h1 h2 hK hp
    obtain ⟨K, rfl⟩ : ∃ k, K = k + 1 := ⟨K - 1, by omega⟩
    rw [S.l2Fact_l1, idx_nat sc hr, Option.bind_some, if_neg (by rw [har]; simp; omega)]
    exact ⟨_, _, _, rfl, by omega, hp⟩
  | succ n ih =>
    intro K p s l i h1 h2 hK hp
    obtain ⟨K, rfl⟩ : ∃ k, K = k + 1 := ⟨K - 1, by omega⟩
    obtain ⟨v1, q1, t1, e1, -, -, p1⟩ := below_ok a p s w ha hp hw.1 hw.2
    rw [S.l2Fact_l1, idx_nat sc hr, Option.bind_some, if_pos (by rw [har]; exact decide_eq_true (by omega)), hc, e1, Option.bind_some, app_eq _ _ (by simp; omega), Option.bind_some, w64_succ (by omega)]
    exact ih K q1 t1 _ (i + 1) (by omega) (by simp; omega) (by omega) p1
theorem fact_ok (a : Code) (p s : Int) (sc : List Int) (w : Int) (ha : a.length ≤ 1048576) (hp : Pos a p) (hs : schOk sc = true) (hw : 0 < w ∧ w ≤ 256) :
    ∃ (f : Fa) (q t : Int), S.l2Fact (a, p, s) sc w = some (f, (a, q, t)) ∧ 1 ≤ f.2.length ∧ f.2.length ≤ 3 ∧ Pos a q := by
  have hl := sch_len hs
  obtain ⟨v1, q1, t1, e1, h0, h1, p1⟩ := below_ok a p s (sc.length : Int) ha hp (by omega) (by omega)
  obtain ⟨r, rfl⟩ : ∃ r : Nat, v1 = r := ⟨v1.toNat, by omega⟩
  have hr : r < sc.length := by omega
  have har := sch_arity hs hr
  obtain ⟨ar, har2⟩ : ∃ n : Nat, sc[r] = (n : Int) := ⟨(sc[r]).toNat, by omega⟩
  obtain ⟨q2, t2, m, e2, hm, p2⟩ := fact_loop a ha sc (a, p, s) rfl w hw r hr ar har2 (by omega) ar FUEL q1 t1 [] 0 (by omega) rfl (by rw [FUEL_eq]; omega) p1
  have e2' : S.l2Fact_l1 sc (a, p, s) w FUEL (r : Int) [] q1 t1 0 = some ((r : Int), m, q2, t2) := e2
  unfold S.l2Fact
  rw [e1, Option.bind_some]
  simp only
  rw [e2']
  exact ⟨((r : Int), m), q2, t2, rfl, by show 1 ≤ m.length; omega, by show m.length ≤ 3; omega, p2⟩
theorem mem_addF' {l : List Fa} {f e : Fa} (h : e ∈ addF l f) : e ∈ l ∨ e = f := by
  unfold addF at h
  split at h
  · exact .inl h
  · rcases List.mem_append.1 h with h | h
    · rcases List.mem_append.1 h with h | h
      · exact .inl (List.mem_of_mem_take h)
      · exact .inr (List.mem_singleton.1 h)
    · exact .inl (List.mem_of_mem_drop h)
theorem sm_fact {f : Fa} (h : f.2.length ≤ 1048576) : SZ.sm f := ⟨trivial, sm_ints h⟩
theorem facts_loop (a : Code) (ha : a.length ≤ 1048576) (sc : List Int) (hs : schOk sc = true) (c : Code × Int × Int) (hc : c.1 = a) : ∀ (n K : Nat) (p s : Int) (l : List Fa), n < K → l.length + n ≤ 100 → SZ.sm l → (∀ f ∈ l, f.2.length ≤ 3) → Pos a p → ∃ q t m, S.l2Facts_l1 c sc K p s l (n : Int) = some (q, t, m) ∧ m.length ≤ l.length + n ∧ SZ.sm m ∧ (∀ f ∈ m, f.2.length ≤ 3) ∧ Pos a q := by
  intro n
  induction n with
  | zero =>
    intro K p s l hK hl hm hf hp
    obtain ⟨K, rfl⟩ : ∃ k, K = k + 1 := ⟨K - 1, by omega⟩
    rw [S.l2Facts_l1, if_neg (by simp)]
    exact ⟨_, _, _, rfl, by omega, hm, hf, hp⟩
  | succ n ih =>
    intro K p s l hK hl hm hf hp
    obtain ⟨K, rfl⟩ : ∃ k, K = k + 1 := ⟨K - 1, by omega⟩
    obtain ⟨f, q1, t1, e1, h0, h1, p1⟩ := fact_ok a p s sc 4 ha hp hs ⟨by omega, by omega⟩
    have hsf := sm_fact (f := f) (by omega)
    have hlen := addF_len l f
    rw [S.l2Facts_l1, if_pos (decide_eq_true (by omega)), hc, e1, Option.bind_some]
    simp only
    rw [AddFact_S l f hm hsf, Option.bind_some, w64_down n (by omega)]
    obtain ⟨q, t, m, g1, g2, g3, g4, g5⟩ := ih K q1 t1 (addF l f) (by omega) (by omega) (sm_add hm hsf (by omega)) (fun e he => by
      rcases mem_addF' he with he | rfl
      · exact hf e he
      · exact h1) p1
    exact ⟨q, t, m, g1, by omega, g3, g4, g5⟩
theorem facts_ok (a : Code) (p s : Int) (sc : List Int) (most : Int) (ha : a.length ≤ 1048576) (hp : Pos a p) (hs : schOk sc = true) (hm : 0 ≤ most ∧ most ≤ 90) :
    ∃ (l : List Fa) (q t : Int), S.l2Facts (a, p, s) sc most = some (l, (a, q, t)) ∧ (l.length : Int) ≤ most ∧ SZ.sm l ∧ (∀ f ∈ l, f.2.length ≤ 3) ∧ Pos a q := by
  obtain ⟨v1, q1, t1, e1, h0, h1, p1⟩ := below_ok a p s (most + 1) ha hp (by omega) (by omega)
  obtain ⟨n, rfl⟩ : ∃ n : Nat, v1 = n := ⟨v1.toNat, by omega⟩
  obtain ⟨q2, t2, m, e2, hl, hsm, hf, p2⟩ := facts_loop a ha sc hs (a, p, s) rfl n FUEL q1 t1 [] (by rw [FUEL_eq]; omega) (by simp; omega) sm_nil (fun f hf => by cases hf) p1
  unfold S.l2Facts
  rw [w64_sm (by omega) (by omega), e1, Option.bind_some]
  simp only
  rw [e2]
  exact ⟨m, q2, t2, rfl, by simp at hl; omega, hsm, hf, p2⟩
theorem anyFact_ok (a : Code) (p s : Int) (sc : List Int) (ha : a.length ≤ 1048576) (hp : Pos a p) (hs : schOk sc = true) :
    ∃ (f : Fa) (q t : Int), S.l2AnyFact (a, p, s) sc = some (f, (a, q, t)) ∧ f.2.length ≤ 4 ∧ Pos a q := by
  have hl := sch_len hs
  obtain ⟨f, q1, t1, e1, h0, h1, p1⟩ := fact_ok a p s sc 10 ha hp hs ⟨by omega, by omega⟩
  obtain ⟨v2, q2, t2, e2, -, -, p2⟩ := below_ok a q1 t1 8 ha p1 (by omega) (by omega)
  unfold S.l2AnyFact
  rw [IsSchema_S sc (by omega), hs, Option.bind_some, if_pos rfl, e1, Option.bind_some, Option.bind_some]
  simp only
  rw [e2, Option.bind_some]
  simp only
  by_cases c0 : v2 = 0
  · obtain ⟨v3, q3, t3, e3, -, -, p3⟩ := below_ok a q2 t2 5 ha p2 (by omega) (by omega)
    rw [if_pos (decide_eq_true c0), e3]
    exact ⟨_, q3, t3, rfl, by show f.2.length ≤ 4; omega, p3⟩
  · rw [if_neg (by simpa using c0)]
    by_cases c1 : v2 = 1
    · obtain ⟨v3, q3, t3, e3, -, p3⟩ := pick_ok a q2 t2 [-1, 9, 10] ha p2 (by simp) (by simp)
      have hi : idx f.2 0 = some (f.2[0]'(by omega)) := idx_nat f.2 (i := 0) (by omega)
      rw [if_pos (decide_eq_true c1), e3, Option.bind_some, hi]
      exact ⟨_, q3, t3, rfl, by show (f.2.set _ _).length ≤ 4; rw [List.length_set]; omega, p3⟩
    · rw [if_neg (by simpa using c1)]
      by_cases c2 : v2 = 2
      · rw [if_pos (decide_eq_true c2), app_eq _ _ (by simp; omega)]
        exact ⟨_, q2, t2, rfl, by show (f.2 ++ [1]).length ≤ 4; simp; omega, p2⟩
      · rw [if_neg (by simpa using c2)]
        exact ⟨_, q2, t2, rfl, by show f.2.length ≤ 4; omega, p2⟩
theorem anyFacts_ok (a : Code) (p s : Int) (sc : List Int) (ha : a.length ≤ 1048576) (hp : Pos a p) (hs : schOk sc = true) :
    ∃ (l : List Fa) (q t : Int), S.l2AnyFacts (a, p, s) sc = some (l, (a, q, t)) ∧ l.length ≤ 9 ∧ (∀ f ∈ l, f.2.length ≤ 4) ∧ Pos a q := by
  have hl := sch_len hs
  obtain ⟨l, q1, t1, e1, h0, h1, hf, p1⟩ := facts_ok a p s sc 8 ha hp hs ⟨by omega, by omega⟩
  obtain ⟨b, q2, t2, e2, p2⟩ := once_ok a q1 t1 10 ha p1 (by omega) (by omega)
  unfold S.l2AnyFacts
  rw [IsSchema_S sc (by omega), hs, Option.bind_some, if_pos rfl, e1, Option.bind_some, Option.bind_some]
  simp only
  rw [e2, Option.bind_some]
  simp only
  cases b
  · exact ⟨l, q2, t2, rfl, by omega, fun f h => by have := hf f h; omega, p2⟩
  · obtain ⟨f, q3, t3, e3, h3, p3⟩ := anyFact_ok a q2 t2 sc ha p2 hs
    rw [if_pos rfl, e3, Option.bind_some, app_eq _ _ (by simp; omega)]
    refine ⟨_, q3, t3, rfl, by simp; omega, fun g hg => ?_, p3⟩
    rcases List.mem_append.1 hg with hg | hg
    · have := hf g hg; omega
    · rw [List.mem_singleton] at hg; subst hg; exact h3
theorem method_loop (a : Code) (ha : a.length ≤ 1048576) (sc : List Int) (c : Code × Int × Int) (hc : c.1 = a) (r : Nat) (hr : r < sc.length) (ar : Nat) (har : sc[r] = (ar : Int)) (h3 : ar ≤ 3) (x y z : Int) :
    ∀ (n K : Nat) (p s : Int) (l : List Int) (i : Nat), i + n = ar → l.length ≤ i → n < K → Pos a p → ∃ q t m, S.l5Method_l1 sc c K (r : Int) l x y z p s (i : Int) = some ((r : Int), m, x, y, z, q, t) ∧ m.length ≤ 3 ∧ Pos a q := by
  intro n
  induction n with
  | zero =>
    intro K p s l i h1 h2 hK hp
    obtain ⟨K, rfl⟩ : ∃ k, K = k + 1 := ⟨K - 1, by omega⟩
    rw [S.l5Method_l1, idx_nat sc hr, Option.bind_some, if_neg (by rw [har]; simp; omega)]
    exact ⟨p, s, l, rfl, by omega, hp⟩
  | succ n ih =>
    intro K p s l i h1 h2 hK hp
    obtain ⟨K, rfl⟩ : ∃ k, K = k + 1 := ⟨K - 1, by omega⟩
    obtain ⟨b, q1, t1, e1, p1⟩ := once_ok a p s 3 ha hp (by omega) (by omega)
    rw [S.l5Method_l1, idx_nat sc hr, Option.bind_some, if_pos (by rw [har]; exact decide_eq_true (by omega)), hc, e1, Option.bind_some, w64_succ (by omega)]
    simp only
    cases b
    · exact ih K q1 t1 l (i + 1) (by omega) (by omega) (by omega) p1
    · rw [if_pos rfl, app_eq l _ (by simp; omega)]
      exact ih K q1 t1 (l ++ [(i : Int)]) (i + 1) (by omega) (by simp; omega) (by omega) p1
theorem method_ok (a : Code) (p s : Int) (sc : List Int) (ha : a.length ≤ 1048576) (hp : Pos a p) (hs : schOk sc = true) :
    ∃ (f : Mf) (q t : Int), S.l5Method (a, p, s) sc = some (f, (a, q, t)) ∧ f.2.1.length ≤ 3 ∧ Pos a q := by
  have hl := sch_len hs
  obtain ⟨v1, q1, t1, e1, h0, h1, p1⟩ := below_ok a p s (sc.length : Int) ha hp (by omega) (by omega)
  obtain ⟨v2, q2, t2, e2, -, p2⟩ := pick_ok a q1 t1 [0, 0, 0, 1, 2] ha p1 (by simp) (by simp)
  obtain ⟨v3, q3, t3, e3, -, -, p3⟩ := below_ok a q2 t2 5 ha p2 (by omega) (by omega)
  obtain ⟨v4, q4, t4, e4, -, -, p4⟩ := below_ok a q3 t3 6 ha p3 (by omega) (by omega)
  obtain ⟨r, rfl⟩ : ∃ r : Nat, v1 = r := ⟨v1.toNat, by omega⟩
  have hr : r < sc.length := by omega
  have har := sch_arity hs hr
  obtain ⟨ar, har2⟩ : ∃ n : Nat, sc[r] = (n : Int) := ⟨(sc[r]).toNat, by omega⟩
  obtain ⟨q5, t5, m, e5, hm, p5⟩ := method_loop a ha sc (a, p, s) rfl r hr ar har2 (by omega) v2 v3 (w64 (1 + v4)) ar FUEL q4 t4 [] 0 (by omega) (by simp) (by rw [FUEL_eq]; omega) p4
  have e5' : S.l5Method_l1 sc (a, p, s) FUEL (r : Int) [] v2 v3 (w64 (1 + v4)) q4 t4 0 = some ((r : Int), m, v2, v3, w64 (1 + v4), q5, t5) := e5
  unfold S.l5Method
  rw [e1, Option.bind_some]
  simp only
  rw [e2, Option.bind_some]
  simp only
  rw [e3, Option.bind_some]
  simp only
  rw [e4, Option.bind_some]
  simp only
  rw [e5']
  exact ⟨((r : Int), m, v2, v3, w64 (1 + v4)), q5, t5, rfl, hm, p5⟩
theorem methods_loop (a : Code) (ha : a.length ≤ 1048576) (sc : List Int) (hs : schOk sc = true) (c : Code × Int × Int) (hc : c.1 = a) : ∀ (n K : Nat) (p s : Int) (l : List Mf), n < K → l.length + n ≤ 100 → (∀ m ∈ l, m.2.1.length ≤ 100) → Pos a p → ∃ q t m, S.l5Methods_l1 c sc K p s l (n : Int) = some (q, t, m) ∧ m.length = l.length + n ∧ (∀ x ∈ m, x.2.1.length ≤ 100) ∧ Pos a q := by
  intro n
  induction n with
  | zero =>
    intro K p s l hK hl hm hp
    obtain ⟨K, rfl⟩ : ∃ k, K = k + 1 := ⟨K - 1, by omega⟩
    rw [S.l5Methods_l1, if_neg (by simp)]
    exact ⟨_, _, _, rfl, by omega, hm, hp⟩
  | succ n ih =>
    intro K p s l hK hl hm hp
    obtain ⟨K, rfl⟩ : ∃ k, K = k + 1 := ⟨K - 1, by omega⟩
    obtain ⟨f, q1, t1, e1, h1, p1⟩ := method_ok a p s sc ha hp hs
    rw [S.l5Methods_l1, if_pos (decide_eq_true (by omega)), hc, e1, Option.bind_some, app_eq _ _ (by simp; omega), Option.bind_some, w64_down n (by omega)]
    obtain ⟨q, t, m, g1, g2, g3, g4⟩ := ih K q1 t1 (l ++ [f]) (by omega) (by simp; omega) (fun y hy => by
      rcases List.mem_append.1 hy with hy | hy
      · exact hm y hy
      · rw [List.mem_singleton] at hy; subst hy; omega) p1
    exact ⟨q, t, m, g1, by rw [g2]; simp; omega, g3, g4⟩
theorem methods_ok (a : Code) (p s : Int) (sc : List Int) (ha : a.length ≤ 1048576) (hp : Pos a p) (hs : schOk sc = true) :
    ∃ (l : List Mf) (q t : Int), S.l5Methods (a, p, s) sc = some (l, (a, q, t)) ∧ l.length ≤ 4 ∧ (∀ m ∈ l, m.2.1.length ≤ 100) ∧ Pos a q := by
  obtain ⟨v1, q1, t1, e1, h0, h1, p1⟩ := below_ok a p s 4 ha hp (by omega) (by omega)
  obtain ⟨n, rfl⟩ : ∃ n : Nat, v1 = n := ⟨v1.toNat, by omega⟩
  obtain ⟨q2, t2, m, e2, hl, hm, p2⟩ := methods_loop a ha sc hs (a, p, s) rfl (n + 1) FUEL q1 t1 [] (by rw [FUEL_eq]; omega) (by simp; omega) (fun x hx => by cases hx) p1
  have e3 : w64 (1 + (n : Int)) = ((n + 1 : Nat) : Int) := by rw [w64_sm (by omega) (by omega)]; omega
  unfold S.l5Methods
  rw [e1, Option.bind_some]
  simp only
  rw [e3, e2]
  exact ⟨m, q2, t2, rfl, by simp at hl; omega, hm, p2⟩
theorem anyMethod_ok (a : Code) (p s : Int) (sc : List Int) (ha : a.length ≤ 1048576) (hp : Pos a p) (hs : schOk sc = true) :
    ∃ (f : Mf) (q t : Int), S.l5AnyMethod (a, p, s) sc = some (f, (a, q, t)) ∧ f.2.1.length ≤ 100 ∧ Pos a q := by
  have hl := sch_len hs
  obtain ⟨f, q1, t1, e1, h1, p1⟩ := method_ok a p s sc ha hp hs
  obtain ⟨v2, q2, t2, e2, -, -, p2⟩ := below_ok a q1 t1 10 ha p1 (by omega) (by omega)
  unfold S.l5AnyMethod
  rw [IsSchema_S sc (by omega), hs, Option.bind_some, if_pos rfl, e1, Option.bind_some, Option.bind_some]
  simp only
  rw [e2, Option.bind_some]
  simp only
  by_cases c0 : v2 = 0
  · obtain ⟨v3, q3, t3, e3, -, p3⟩ := pick_ok a q2 t2 [-1, 9, 10] ha p2 (by simp) (by simp)
    rw [if_pos (decide_eq_true c0), e3]
    exact ⟨_, q3, t3, rfl, by show f.2.1.length ≤ 100; omega, p3⟩
  · rw [if_neg (by simpa using c0)]
    by_cases c1 : v2 = 1
    · obtain ⟨v3, q3, t3, e3, -, -, p3⟩ := below_ok a q2 t2 5 ha p2 (by omega) (by omega)
      rw [if_pos (decide_eq_true c1), e3, Option.bind_some, app_eq _ _ (by simp; omega)]
      exact ⟨_, q3, t3, rfl, by show (f.2.1 ++ [_]).length ≤ 100; simp; omega, p3⟩
    · rw [if_neg (by simpa using c1)]
      by_cases c2 : v2 = 2
      · obtain ⟨v3, q3, t3, e3, -, p3⟩ := pick_ok a q2 t2 [0, 99, 100] ha p2 (by simp) (by simp)
        rw [if_pos (decide_eq_true c2), e3]
        exact ⟨_, q3, t3, rfl, by show f.2.1.length ≤ 100; omega, p3⟩
      · rw [if_neg (by simpa using c2)]
        by_cases c3 : v2 = 3
        · obtain ⟨v3, q3, t3, e3, -, p3⟩ := pick_ok a q2 t2 [-1, 99, 100] ha p2 (by simp) (by simp)
          rw [if_pos (decide_eq_true c3), e3]
          exact ⟨_, q3, t3, rfl, by show f.2.1.length ≤ 100; omega, p3⟩
        · rw [if_neg (by simpa using c3)]
          exact ⟨_, q2, t2, rfl, by show f.2.1.length ≤ 100; omega, p2⟩
theorem draw5_ok (a : Code) (p s : Int) (ha : a.length ≤ 1048576) (hp : Pos a p) :
    ∃ (sc : List Int) (l : List Mf) (f : List Fa) (q t : Int), S.l5Draw (a, p, s) = some (sc, l, f, (a, q, t)) ∧ l.length ≤ 5 ∧ (∀ m ∈ l, m.2.1.length ≤ 100) ∧ Pos a q := by
  obtain ⟨sc, q1, t1, e1, hs, -, p1⟩ := schema_ok a p s ha hp
  obtain ⟨l, q2, t2, e2, hl, hm, p2⟩ := methods_ok a q1 t1 sc ha p1 hs
  obtain ⟨f, q3, t3, e3, -, -, -, p3⟩ := facts_ok a q2 t2 sc 8 ha p2 hs ⟨by omega, by omega⟩
  obtain ⟨v4, q4, t4, e4, -, -, p4⟩ := below_ok a q3 t3 20 ha p3 (by omega) (by omega)
  unfold S.l5Draw
  rw [e1, Option.bind_some]
  simp only
  rw [e2, Option.bind_some]
  simp only
  rw [e3, Option.bind_some]
  simp only
  rw [e4, Option.bind_some]
  simp only
  by_cases c0 : v4 = 0
  · obtain ⟨g, q5, t5, e5, hg, p5⟩ := anyMethod_ok a q4 t4 sc ha p4 hs
    rw [if_pos (decide_eq_true c0), e5, Option.bind_some, app_eq _ _ (by simp; omega)]
    refine ⟨sc, _, f, q5, t5, rfl, by simp; omega, fun m hmm => ?_, p5⟩
    rcases List.mem_append.1 hmm with hmm | hmm
    · exact hm m hmm
    · rw [List.mem_singleton] at hmm; subst hmm; exact hg
  · rw [if_neg (by simpa using c0)]
    by_cases c1 : v4 = 1
    · obtain ⟨g, q5, t5, e5, -, -, p5⟩ := anyFacts_ok a q4 t4 sc ha p4 hs
      rw [if_pos (decide_eq_true c1), e5]
      exact ⟨sc, l, g, q5, t5, rfl, by omega, hm, p5⟩
    · rw [if_neg (by simpa using c1)]
      by_cases c2 : v4 = 2
      · obtain ⟨g, q5, t5, e5, p5⟩ := anySchema_ok a q4 t4 ha p4
        rw [if_pos (decide_eq_true c2), e5]
        exact ⟨g, l, f, q5, t5, rfl, by omega, hm, p5⟩
      · rw [if_neg (by simpa using c2)]
        exact ⟨sc, l, f, q4, t4, rfl, by omega, hm, p4⟩
theorem access_loop (a : Code) (ha : a.length ≤ 1048576) (l : List Mf) (c : Code × Int × Int) (hc : c.1 = a) (r : Nat) (hr : r < l.length) (hn : l[r].2.1.length ≤ 100) :
    ∀ (n K : Nat) (p s : Int) (v : List Int) (i : Nat), i + n = l[r].2.1.length → v.length = i → n < K → Pos a p → ∃ q t m, S.l5Access_l1 l c K (r : Int) v p s (i : Int) = some ((r : Int), m, q, t) ∧ m.length ≤ 100 ∧ Pos a q := by
  intro n
  induction n with
  | zero =>
    intro K p s v i h1 h2 hK hp
    obtain ⟨K, rfl⟩ : ∃ k, K = k + 1 := ⟨K - 1, by omega⟩
    rw [S.l5Access_l1, idx_nat l hr, Option.bind_some, if_neg (by simp; omega)]
    exact ⟨_, _, _, rfl, by omega, hp⟩
  | succ n ih =>
    intro K p s v i h1 h2 hK hp
    obtain ⟨K, rfl⟩ : ∃ k, K = k + 1 := ⟨K - 1, by omega⟩
    obtain ⟨v1, q1, t1, e1, -, -, p1⟩ := below_ok a p s 4 ha hp (by omega) (by omega)
    rw [S.l5Access_l1, idx_nat l hr, Option.bind_some, if_pos (decide_eq_true (by omega)), hc, e1, Option.bind_some, app_eq _ _ (by simp; omega), Option.bind_some, w64_succ (by omega)]
    exact ih K q1 t1 _ (i + 1) (by omega) (by simp; omega) (by omega) p1
theorem access_ok (a : Code) (p s : Int) (l : List Mf) (ha : a.length ≤ 1048576) (hp : Pos a p) (hl : l.length ≤ 5) (hm : ∀ m ∈ l, m.2.1.length ≤ 100) :
    ∃ (f : Fa) (q t : Int), S.l5Access (a, p, s) l = some (f, (a, q, t)) ∧ f.2.length ≤ 100 ∧ Pos a q := by
  unfold S.l5Access
  by_cases c0 : (l.length : Int) = 0
  · rw [if_pos (decide_eq_true c0)]
    exact ⟨(0, []), p, s, rfl, by simp, hp⟩
  · obtain ⟨v1, q1, t1, e1, h0, h1, p1⟩ := below_ok a p s (l.length : Int) ha hp (by omega) (by omega)
    obtain ⟨r, rfl⟩ : ∃ r : Nat, v1 = r := ⟨v1.toNat, by omega⟩
    have hr : r < l.length := by omega
    obtain ⟨q2, t2, m, e2, hml, p2⟩ := access_loop a ha l (a, p, s) rfl r hr (hm _ (List.getElem_mem hr)) l[r].2.1.length FUEL q1 t1 [] 0 (by omega) rfl (by have := hm _ (List.getElem_mem hr); rw [FUEL_eq]; omega) p1
    have e2' : S.l5Access_l1 l (a, p, s) FUEL (r : Int) [] q1 t1 0 = some ((r : Int), m, q2, t2) := e2
    rw [if_neg (by simpa using c0), e1, Option.bind_some]
    simp only
    rw [e2']
    exact ⟨((r : Int), m), q2, t2, rfl, hml, p2⟩
theorem anyAccess_ok (a : Code) (p s : Int) (l : List Mf) (ha : a.length ≤ 1048576) (hp : Pos a p) (hl : l.length ≤ 5) (hm : ∀ m ∈ l, m.2.1.length ≤ 100) :
    ∃ (f : Fa) (q t : Int), S.l5AnyAccess (a, p, s) l = some (f, (a, q, t)) ∧ f.2.length ≤ 101 ∧ Pos a q := by
  obtain ⟨f, q1, t1, e1, h1, p1⟩ := access_ok a p s l ha hp hl hm
  obtain ⟨v2, q2, t2, e2, -, -, p2⟩ := below_ok a q1 t1 12 ha p1 (by omega) (by omega)
  unfold S.l5AnyAccess
  rw [e1, Option.bind_some]
  simp only
  rw [e2, Option.bind_some]
  simp only
  by_cases c0 : v2 = 0
  · obtain ⟨v3, q3, t3, e3, -, -, p3⟩ := below_ok a q2 t2 7 ha p2 (by omega) (by omega)
    rw [if_pos (decide_eq_true c0), e3]
    exact ⟨_, q3, t3, rfl, by show f.2.length ≤ 101; omega, p3⟩
  · rw [if_neg (by simpa using c0)]
    by_cases c1 : v2 = 1
    · obtain ⟨v3, q3, t3, e3, -, p3⟩ := pick_ok a q2 t2 [-1, 3, 10] ha p2 (by simp) (by simp)
      rw [if_pos (decide_eq_true c1), e3, Option.bind_some, app_eq _ _ (by simp; omega)]
      exact ⟨_, q3, t3, rfl, by show (f.2 ++ [v3]).length ≤ 101; simp; omega, p3⟩
    · rw [if_neg (by simpa using c1)]
      exact ⟨_, q2, t2, rfl, by show f.2.length ≤ 101; omega, p2⟩
end Go.Gx.Px
