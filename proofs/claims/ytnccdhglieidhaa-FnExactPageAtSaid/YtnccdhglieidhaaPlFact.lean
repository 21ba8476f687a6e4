/- Plain laws: the frame's functions at facts. Conditions: none. -/
import Derived.Test.YtnccdhglieidhaaPlInt
set_option linter.unusedVariables false
set_option linter.unusedSimpArgs false
namespace Go.Gx.Px
/-- data that is not too large for the frame -/
def smF (a : List (Int × List Int)) : Prop := a.length ≤ 1048576 ∧ ∀ e ∈ a, e.2.length ≤ 1048576
theorem szs_pair (a : List (Int × List Int)) : ∀ e ∈ a, e.2.length ≤ szs a := fun e he => by
  have h := szs_le he
  have h2 : SZ.sz e = SZ.sz e.1 + SZ.sz e.2 := rfl
  rw [sz_ints] at h2
  omega
theorem smF_of (a : List (Int × List Int)) (h : (SZ.sz a : Int) ≤ 1048576) : smF a := by
  have e : SZ.sz a = a.length + szs a := rfl
  exact ⟨by omega, fun x hx => by have := szs_pair a x hx; omega⟩
theorem szFact_eq (e : Int × List Int) (x : Int) (h0 : 0 ≤ x) (h1 : x ≤ 1048576) (ha : e.2.length ≤ maxLen) : Q.szFact e x = some (left (SZ.sz e) x) := by
  unfold Q.szFact
  have h2 : SZ.sz e = SZ.sz e.2 := by show 0 + _ = _; omega
  rw [szIntS_eq _ x h0 h1 ha, h2, Option.bind_some]
  by_cases h : (SZ.sz e.2 : Int) ≤ x
  · rw [if_neg (by simp [left_neg h0]; exact h)]
  · rw [if_pos (by simp [left_neg h0]; omega)]; unfold left; rw [if_neg h]
theorem szFactS_eq (a : List (Int × List Int)) (x : Int) (h0 : 0 ≤ x) (h1 : x ≤ 1048576) (hr : Rng.r a) : Q.szFactS a x = some (left (SZ.sz a) x) := by
  obtain ⟨ha, he⟩ : a.length ≤ maxLen ∧ ∀ e ∈ a, Rng.r e := hr
  unfold Q.szFactS left
  have e : SZ.sz a = a.length + szs a := rfl
  rw [w64_id (by simp only [maxLen] at ha; omega) (by omega)]
  by_cases h : (a.length : Int) ≤ x
  · have hl := sz_loop (Q.szFactS_l1 a) a (by omega) (fun k x => by rw [Q.szFactS_l1, if_neg (by simp)]) (fun k x i hi h2 h3 => by
      have hm : a[i].2.length ≤ maxLen := (he _ (List.getElem_mem hi)).2.1
      rw [Q.szFactS_l1, if_pos (by simpa using hi), idx_nat a hi, Option.bind_some, szFact_eq _ x h2 h3 hm, Option.bind_some]
      by_cases h4 : (SZ.sz a[i] : Int) ≤ x
      · rw [if_neg (by simp [left_neg h2]; exact h4), if_pos h4, w64_succ (by omega)]; unfold left; rw [if_pos h4]
      · rw [if_pos (by simp [left_neg h2]; omega), if_neg h4]) FUEL 0 (x - a.length) (by omega) (by rw [FUEL_eq]; omega) (by omega) (by omega)
    rw [if_neg (by simp; omega), show (0 : Int) = ((0 : Nat) : Int) from rfl, hl, List.drop_zero]
    by_cases h5 : (szs a : Int) ≤ x - a.length
    · rw [if_pos h5, if_pos (by omega), Option.bind_some]; simp only; congr 1; omega
    · rw [if_neg h5, if_neg (by omega), Option.bind_some]
  · rw [if_pos (by simp; omega), if_neg (by omega)]
theorem toFact_id (e : Int × List Int) (h : e.2.length ≤ 1048576) : Q.toFact e = some e := by
  unfold Q.toFact; rw [toIntS_id _ (by omega)]; rfl
theorem toFactS_id (a : List (Int × List Int)) (h : smF a) : Q.toFactS a = some a := by
  obtain ⟨ha, he⟩ := h
  unfold Q.toFactS mk
  rw [if_pos (by rw [LIM_eq]; omega), Option.bind_some, to_loop (Q.toFactS_l1 a) a _ (by simp) (by omega) (fun k x => by rw [Q.toFactS_l1, if_neg (by simp)]) (fun k x i hi hl => by
    rw [Q.toFactS_l1, if_pos (by simpa using hi), idx_nat a hi, Option.bind_some, toFact_id _ (he _ (List.getElem_mem hi)), Option.bind_some, idx_nat x (by omega), Option.bind_some, w64_succ (by omega), Int.toNat_natCast])]
  rfl
theorem eqFact_refl (e : Int × List Int) (h : e.2.length ≤ 1048576) : Q.eqFact e e = some true := by
  unfold Q.eqFact; rw [if_neg (by simp), eqIntS_refl _ (by omega)]; simp
theorem eqFactS_refl (a : List (Int × List Int)) (h : smF a) : Q.eqFactS a a = some true := by
  obtain ⟨ha, he⟩ := h
  unfold Q.eqFactS
  rw [if_neg (by simp), eq_loop (Q.eqFactS_l1 a a) a.length (by omega) (fun k => by rw [Q.eqFactS_l1, if_neg (by simp)]) (fun k i hi => by
    rw [Q.eqFactS_l1, if_pos (by simpa using hi), idx_nat a hi, Option.bind_some, Option.bind_some, eqFact_refl _ (he _ (List.getElem_mem hi)), Option.bind_some]
    simp [w64_succ (show i < 4611686018427387904 by omega)])]
  rfl
instance : MT (Int × List Int) := ⟨fun e c => (c, mkL e.2 (c + 1)), fun e => 1 + e.2.length⟩
theorem mszL_pair (a : List (Int × List Int)) : mszL a = SZ.sz a := by
  show mszL a = a.length + szs a
  induction a with
  | nil => rfl
  | cons x a ih =>
    have h1 : SZ.sz x = x.2.length := by show 0 + SZ.sz x.2 = _; rw [sz_ints]; omega
    have h2 : MT.msz x = 1 + x.2.length := rfl
    simp only [mszL, szs, List.length_cons, ih, h1, h2]; omega
theorem mszL_sm (a : List (Int × List Int)) (h : smF a) : mszL a ≤ 1099512676352 := by
  obtain ⟨ha, he⟩ := h
  have : ∀ (l : List (Int × List Int)), (∀ e ∈ l, e.2.length ≤ 1048576) → mszL l ≤ l.length * 1048577 := by
    intro l
    induction l with
    | nil => intro _; simp [mszL]
    | cons x l ih =>
      intro h
      have h1 := ih (fun e he => h e (List.mem_cons_of_mem _ he))
      have h2 := h x (List.mem_cons_self ..)
      have h3 : MT.msz x = 1 + x.2.length := rfl
      simp only [mszL, List.length_cons, Nat.add_mul, h3]; omega
  have h1 := this a he
  have h2 : a.length * 1048577 ≤ 1048576 * 1048577 := Nat.mul_le_mul_right _ ha
  exact Nat.le_trans h1 h2
theorem markFactS_eq (a : List (Int × List Int)) (c : Int) (h : smF a) (h0 : 0 ≤ c) (hc : c ≤ 1152921504606846976) : Q.markFactS a c = some (c + mszL a, mkL a c) := by
  have hm := mszL_sm a h
  obtain ⟨ha, he⟩ := h
  unfold Q.markFactS
  rw [mark_loop Q.markFactS_l1 a c (by omega) h0 (by omega) (fun k x c => by rw [Q.markFactS_l1, if_neg (by simp)]) (fun k x c i hi hx h1 h2 h3 => by
    have h3' : c + ((1 + x[i].2.length : Nat) : Int) ≤ 2305843009213693952 := h3
    have hl := he _ hx
    rw [Q.markFactS_l1, if_pos (by simpa using hi), idx_nat x hi]
    simp only [Option.bind_some, Int.toNat_natCast]
    rw [idx_set _ _ hi]
    simp only [Option.bind_some]
    rw [w64_sm (show -4611686018427387904 ≤ c + 1 by omega) (by omega), markIntS_eq _ _ (by omega) (by omega) (by omega)]
    simp only [Option.bind_some, List.set_set, w64_succ (show i < 4611686018427387904 by omega)]
    rw [show c + 1 + (x[i].2.length : Int) = c + ((1 + x[i].2.length : Nat) : Int) by omega]
    rfl)]
  rfl
theorem heldFactS_eq (a : List (Int × List Int)) (c : Int) (h : smF a) (h0 : 0 ≤ c) (hc : c ≤ 1152921504606846976) : Q.heldFactS (mkL a c) c = some (c + mszL a) := by
  have hm := mszL_sm a h
  obtain ⟨ha, he⟩ := h
  unfold Q.heldFactS
  rw [held_loop (Q.heldFactS_l1 (mkL a c)) a c (by omega) h0 (by omega) (fun k c' => by rw [Q.heldFactS_l1, if_neg (by simp [mkL_length])]) (fun k c' i hi hx h2 h3 => by
    have h3' : c' + ((1 + a[i].2.length : Nat) : Int) ≤ 2305843009213693952 := h3
    have hl := he _ (List.getElem_mem hi)
    rw [Q.heldFactS_l1, if_pos (by simpa [mkL_length] using hi), hx]
    simp only [Option.bind_some, MT.mq]
    rw [if_neg (by simp), w64_sm (show -4611686018427387904 ≤ c' + 1 by omega) (by omega), heldIntS_eq _ _ (by omega) (by omega) (by omega), Option.bind_some, if_neg (by simp; omega), w64_succ (by omega)]
    rw [show c' + 1 + (a[i].2.length : Int) = c' + ((1 + a[i].2.length : Nat) : Int) by omega]
    rfl)]
  rfl
end Go.Gx.Px
