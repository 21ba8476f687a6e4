/- Plain laws: facts in order: how many there may be, and what is among them. Conditions: none. -/
import Derived.Test.YtngpabaocflipaaGreatPbrA
set_option linter.unusedVariables false
set_option linter.unusedSimpArgs false
namespace Go.Gx.Px
theorem cmpL_zero : ∀ (a b : List Int), cmpL a b = 0 → a = b
  | [], [], _ => rfl
  | [], _ :: _, h => by simp [cmpL] at h
  | _ :: _, [], h => by simp [cmpL] at h
  | x :: a, y :: b, h => by
    unfold cmpL at h
    split at h
    · omega
    · split at h
      · omega
      · rw [cmpL_zero a b h, show x = y by omega]
theorem cmpL_refl : ∀ a : List Int, cmpL a a = 0
  | [] => rfl
  | x :: a => by unfold cmpL; rw [if_neg (by omega), if_neg (by omega), cmpL_refl a]
theorem cmpF_zero {a b : Fa} (h : cmpF a b = 0) : a = b := by
  unfold cmpF at h
  split at h
  · omega
  · split at h
    · omega
    · exact Prod.ext (by omega) (cmpL_zero _ _ h)
theorem cmpF_refl (a : Fa) : cmpF a a = 0 := by unfold cmpF; rw [if_neg (by omega), if_neg (by omega), cmpL_refl]
theorem hasF_iff {l : List Fa} {f : Fa} : hasF l f = true ↔ f ∈ l := by
  unfold hasF
  rw [List.any_eq_true]
  constructor
  · rintro ⟨e, he, h⟩; rw [← cmpF_zero (of_decide_eq_true h)]; exact he
  · intro h; exact ⟨f, h, decide_eq_true (cmpF_refl f)⟩
theorem hasF_no {l : List Fa} {f : Fa} : hasF l f = false ↔ f ∉ l := by
  rw [← hasF_iff]; cases hasF l f <;> simp
theorem mem_add {l : List Fa} {f e : Fa} : e ∈ addF l f ↔ e ∈ l ∨ e = f := by
  constructor
  · exact mem_addF
  · intro h
    unfold addF
    split
    · rename_i hh
      rcases h with h | rfl
      · exact h
      · exact hasF_iff.1 hh
    · rcases h with h | rfl
      · rw [← List.take_append_drop (l.findIdx (gtF f)) l] at h
        rcases List.mem_append.1 h with h | h <;> simp [h]
      · simp
theorem mem_addAll (l acc : List Fa) : ∀ e, e ∈ addAll l acc ↔ e ∈ acc ∨ e ∈ l := by
  unfold addAll
  induction l generalizing acc with
  | nil => simp
  | cons a l ih =>
    intro e
    rw [List.foldl_cons, ih, mem_add, List.mem_cons, or_assoc]
theorem mem_unF (l : List To) (acc : List Fa) : ∀ e, e ∈ unF l acc ↔ e ∈ acc ∨ ∃ t ∈ l, e ∈ t.2 := by
  unfold unF
  induction l generalizing acc with
  | nil => simp
  | cons a l ih =>
    intro e
    rw [List.foldl_cons, ih, mem_addAll]
    simp only [List.mem_cons, exists_eq_or_imp, or_assoc]
theorem asc_addAll (l acc : List Fa) (h : Asc acc) : Asc (addAll l acc) := by
  unfold addAll
  induction l generalizing acc with
  | nil => exact h
  | cons a l ih => exact ih _ (asc_add _ _ h)
theorem asc_unF (l : List To) (acc : List Fa) (h : Asc acc) : Asc (unF l acc) := by
  unfold unF
  induction l generalizing acc with
  | nil => exact h
  | cons a l ih => exact ih _ (asc_addAll _ _ h)

/-! the number of a fact -/
def val : List Int → Nat
  | [] => 0
  | x :: t => x.toNat * 10 ^ t.length + val t
theorem val_lt : ∀ l : List Int, (∀ x ∈ l, 0 ≤ x ∧ x ≤ 9) → val l < 10 ^ l.length
  | [], _ => by simp [val]
  | x :: t, h => by
    have h1 := val_lt t fun y hy => h y (List.mem_cons_of_mem _ hy)
    obtain ⟨h2, h3⟩ := h x (List.mem_cons_self ..)
    unfold val
    rw [List.length_cons, Nat.pow_succ]
    have h4 : x.toNat ≤ 9 := by omega
    have h5 : x.toNat * 10 ^ t.length ≤ 9 * 10 ^ t.length := Nat.mul_le_mul_right _ h4
    omega
theorem val_mono : ∀ a b : List Int, a.length = b.length → (∀ x ∈ a, 0 ≤ x ∧ x ≤ 9) → (∀ x ∈ b, 0 ≤ x ∧ x ≤ 9) → cmpL a b < 0 → val a < val b
  | [], [], _, _, _, h => by simp [cmpL] at h
  | [], _ :: _, h, _, _, _ => by simp at h
  | _ :: _, [], h, _, _, _ => by simp at h
  | x :: a, y :: b, hl, ha, hb, h => by
    have hl' : a.length = b.length := by simpa using hl
    have a1 := ha x (List.mem_cons_self ..)
    have b1 := hb y (List.mem_cons_self ..)
    have ha' := fun z hz => ha z (List.mem_cons_of_mem x hz)
    have hb' := fun z hz => hb z (List.mem_cons_of_mem y hz)
    unfold cmpL at h
    unfold val
    rw [← hl']
    by_cases c : x < y
    · have h1 := val_lt a ha'
      have h2 : (x.toNat + 1) * 10 ^ a.length ≤ y.toNat * 10 ^ a.length := Nat.mul_le_mul_right _ (by omega)
      rw [Nat.add_mul, Nat.one_mul] at h2
      omega
    · rw [if_neg c] at h
      by_cases c2 : y < x
      · rw [if_pos c2] at h; omega
      · rw [if_neg c2] at h
        have := val_mono a b hl' ha' hb' h
        rw [show x = y by omega]
        omega
def code (f : Fa) : Nat := f.1.toNat * 1000 + val f.2
theorem fact_parts {s : List Int} {f : Fa} (h : factOk s f = true) : relOk s f.1 = true ∧ (f.2.length : Int) = arity s f.1 ∧ ∀ x ∈ f.2, 0 ≤ x ∧ x ≤ 9 := by
  unfold factOk at h
  rw [Bool.and_eq_true, Bool.and_eq_true] at h
  exact ⟨h.1.1, of_decide_eq_true h.1.2, fun x hx => inR_iff.1 (List.all_eq_true.1 h.2 x hx)⟩
theorem fact_val {s : List Int} {f : Fa} (h : factOk s f = true) : val f.2 < 1000 ∧ 0 ≤ f.1 ∧ f.1 ≤ 2 := by
  obtain ⟨h1, h2, h3⟩ := fact_parts h
  have h4 := val_lt f.2 h3
  have h5 := arity_r h1
  have h6 : 10 ^ f.2.length ≤ 10 ^ 3 := Nat.pow_le_pow_right (by omega) (by omega)
  unfold relOk at h1
  rw [Bool.and_eq_true] at h1
  have h7 := inR_iff.1 h1.2
  have h8 := sch_len h1.1
  omega
theorem code_mono {s : List Int} {a b : Fa} (ha : factOk s a = true) (hb : factOk s b = true) (h : cmpF a b < 0) : code a < code b := by
  obtain ⟨a1, a2, a3⟩ := fact_parts ha
  obtain ⟨b1, b2, b3⟩ := fact_parts hb
  have a4 := fact_val ha
  have b4 := fact_val hb
  unfold cmpF at h
  unfold code
  split at h
  · omega
  · split at h
    · omega
    · have e : a.1 = b.1 := by omega
      have := val_mono a.2 b.2 (by rw [e] at a2; omega) a3 b3 h
      omega
theorem up_len : ∀ (l : List Nat) (lo hi : Nat), l.Pairwise (· < ·) → (∀ x ∈ l, lo ≤ x ∧ x < hi) → l.length + lo ≤ hi ∨ l = []
  | [], _, _, _, _ => .inr rfl
  | x :: t, lo, hi, h, hr => by
    left
    obtain ⟨h1, h2⟩ := List.pairwise_cons.1 h
    have hx := hr x (List.mem_cons_self ..)
    rcases up_len t (x + 1) hi h2 (fun y hy => ⟨h1 y hy, (hr y (List.mem_cons_of_mem _ hy)).2⟩) with h3 | h3
    · rw [List.length_cons]; omega
    · subst h3; simp; omega
theorem asc_len {s : List Int} {l : List Fa} (h : Asc l) (hf : ∀ f ∈ l, factOk s f = true) : l.length ≤ 3000 := by
  have h1 : (l.map code).Pairwise (· < ·) := by
    rw [List.pairwise_map]
    exact h.imp_of_mem fun ha hb hab => code_mono (hf _ ha) (hf _ hb) hab
  have h2 : ∀ x ∈ l.map code, 0 ≤ x ∧ x < 3000 := by
    intro x hx
    obtain ⟨f, hm, rfl⟩ := List.mem_map.1 hx
    have := fact_val (hf f hm)
    unfold code
    omega
  rcases up_len _ 0 3000 h1 h2 with h3 | h3
  · rw [List.length_map] at h3; omega
  · rw [List.map_eq_nil_iff] at h3; subst h3; simp
theorem fact_sm {s : List Int} {f : Fa} (h : factOk s f = true) : SZ.sm f := by
  obtain ⟨h1, h2, -⟩ := fact_parts h
  have := arity_r h1
  exact ⟨trivial, sm_ints (by omega)⟩
theorem asc_sm {s : List Int} {l : List Fa} (h : Asc l) (hf : ∀ f ∈ l, factOk s f = true) : SZ.sm l :=
  ⟨by have := asc_len h hf; omega, fun f hm => fact_sm (hf f hm)⟩
/-- a fold in a loop that keeps something -/
theorem fold_loop {α β : Type} (f : Nat → β → Int → Option β) (a : List α) (g : β → α → β) (P : β → Prop) (x0 : β) (h0 : P x0) (hn : a.length ≤ 4294967296) (he : ∀ k x, f (k + 1) x (a.length : Int) = some x)
    (hs : ∀ k x (i : Nat) (hi : i < a.length), P x → f (k + 1) x (i : Int) = f k (g x a[i]) ((i + 1 : Nat) : Int)) (hp : ∀ x e, e ∈ a → P x → P (g x e)) : f FUEL x0 0 = some (a.foldl g x0) ∧ P (a.foldl g x0) := by
  obtain ⟨k, s', h1, h2, h3⟩ := loop_inv0 f (fun i x => P x ∧ x = (a.take i).foldl g x0) a.length hn x0 ⟨h0, by simp⟩ (fun k i x hi ⟨hx, hx2⟩ => ⟨_, hs k x i hi hx, hp _ _ (List.getElem_mem hi) hx, by
    rw [List.take_add_one, List.getElem?_eq_getElem hi, List.foldl_append, ← hx2]; rfl⟩)
  rw [List.take_length] at h3
  subst h3
  exact ⟨by rw [h1, he], h2⟩
theorem con_all {s : List Int} {l : List Me} {a : List To} (h : (firstC s l a).2.2 = false) : ∀ i, i < a.length → conAt s l a i = none := by
  unfold firstC at h
  cases hf : (List.range a.length).findSome? (conAt s l a) with
  | none => intro i hi; exact (List.findSome?_eq_none_iff.1 hf) i (List.mem_range.2 hi)
  | some r =>
    obtain ⟨i, -, hi⟩ := List.exists_of_findSome?_eq_some hf
    rw [hf] at h
    unfold conAt at hi
    split at hi
    · split at hi
      · split at hi
        · cases hi; cases h
        · cases hi
      · cases hi; cases h
    · cases hi
theorem con_self {s : List Int} {l : List Me} {a : List To} (h : consF s l a = true) : ∀ t ∈ a, selfOk s l t = true := by
  unfold consF at h
  rw [Bool.and_eq_true, Bool.not_eq_true'] at h
  intro t ht
  obtain ⟨i, hi, rfl⟩ := List.getElem_of_mem ht
  have h1 := con_all h.2 i hi
  unfold conAt at h1
  rw [dif_pos hi] at h1
  by_cases h2 : selfOk s l a[i] = true
  · exact h2
  · rw [if_neg h2] at h1; cases h1
end Go.Gx.Px
