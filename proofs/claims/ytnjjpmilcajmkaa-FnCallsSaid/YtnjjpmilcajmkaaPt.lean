/- Plain laws: calls that are tried again. Conditions: none. -/
import Derived.Test.YtnjjpmilcajmkaaPg
set_option linter.unusedVariables false
set_option linter.unusedSimpArgs false
namespace Go.Gx.Px
abbrev Ca := Int × Int × Int × Bool
theorem nthI_q (l : List Int) (i : Nat) : nthI l i = (l[i]?).getD 0 := by unfold nthI; rw [List.getD_eq_getElem?_getD]
theorem nthI_put (l : List Int) (x : Int) {p : Nat} (hp : p ≤ l.length) (i : Nat) : nthI (l.take p ++ [x] ++ l.drop p) i = if i < p then nthI l i else if i = p then x else nthI l (i - 1) := by
  have hl : (l.take p).length = p := by rw [List.length_take]; omega
  rw [nthI_q, nthI_q, nthI_q]
  by_cases h1 : i < p
  · rw [if_pos h1, List.append_assoc, List.getElem?_append_left (by omega), List.getElem?_take_of_lt h1]
  · rw [if_neg h1]
    by_cases h2 : i = p
    · subst h2
      rw [if_pos rfl, List.append_assoc, List.getElem?_append_right (by omega), hl, Nat.sub_self]
      rfl
    · rw [if_neg h2, List.getElem?_append_right (by rw [List.length_append, hl]; simp; omega), List.length_append, hl, List.getElem?_drop]
      congr 2
      simp; omega
theorem put_asc (l : List Int) (x : Int) (ha : ascOk l = true) (hh : hasI l x = false) : ascOk (l.take (posI l x) ++ [x] ++ l.drop (posI l x)) = true := by
  have hp := posI_le l x
  have hlen : (l.take (posI l x) ++ [x] ++ l.drop (posI l x)).length = l.length + 1 := by simp only [List.length_append, List.length_take, List.length_drop, List.length_cons, List.length_nil]; omega
  apply asc_of
  intro i hi
  rw [hlen] at hi
  rw [nthI_put l x hp, nthI_put l x hp]
  have hne : ∀ i, i < l.length → nthI l i ≠ x := fun i hi e => by
    have : hasI l x = true := hasI_iff.2 ⟨i, hi, e⟩
    rw [hh] at this; cases this
  rcases Nat.lt_trichotomy i (posI l x) with c | c | c
  · rw [if_pos c]
    by_cases c2 : i + 1 < posI l x
    · rw [if_pos c2]; exact asc_lt ha (i + 1) i (by omega) (by omega)
    · rw [if_neg c2, if_pos (by omega)]
      have := posI_lt l x c (by omega)
      have := hne i (by omega)
      rw [nthI_get (by omega)] at this ⊢
      omega
  · rw [if_neg (by omega), if_pos c, if_neg (by omega), if_neg (by omega), Nat.add_sub_cancel]
    have := posI_at l x (by omega)
    rw [c, nthI_get (by omega)]; exact this
  · rw [if_neg (by omega), if_neg (by omega), if_neg (by omega), if_neg (by omega)]
    exact asc_lt ha (i + 1 - 1) (i - 1) (by omega) (by omega)
theorem recv_ok {x : Le} {key cost : Int} (h : ledOk x = true) (hk : 0 ≤ key ∧ key ≤ 1000000) (hc : 0 ≤ cost ∧ cost ≤ 99) (h1 : x.2.1 ≤ 999999000) (h2 : x.2.2 ≤ 999999000) :
    ledOk (recv x key cost) = true ∧ (recv x key cost).2.1 ≤ x.2.1 + 99 ∧ (recv x key cost).2.2 = x.2.2 + 1 := by
  obtain ⟨g1, g2, g3, g4⟩ := led_parts h
  unfold recv
  cases hh : hasI x.1 key
  · simp only [Bool.false_eq_true, if_false]
    refine ⟨?_, by omega, trivial⟩
    unfold ledOk putI
    rw [hh]
    simp only [Bool.false_eq_true, if_false]
    rw [put_asc _ _ g1 hh]
    simp only [Bool.and_eq_true, List.all_eq_true, inR_iff, Bool.true_and]
    refine ⟨fun k hm => ?_, by omega, by omega⟩
    rcases List.mem_append.1 hm with hm | hm
    · rcases List.mem_append.1 hm with hm | hm
      · exact g2 k (List.mem_of_mem_take hm)
      · simp at hm; subst hm; exact hk
    · exact g2 k (List.mem_of_mem_drop hm)
  · simp only [if_true]
    refine ⟨?_, by omega, trivial⟩
    unfold ledOk at h ⊢
    simp only [Bool.and_eq_true, inR_iff] at h ⊢
    exact ⟨h.1, h.2.1, by omega⟩
def tcOk (x : Le) (c : Ca) : Bool := ledOk x && (inR c.1 0 1000000 && (inR c.2.1 0 99 && (inR c.2.2.1 0 1000 && (!c.2.2.2 && !(decide (999998000 < x.2.1) || decide (999998000 < x.2.2))))))
def tc (x : Le) (c : Ca) (fate : Int) : Le × Ca × Bool :=
  if tcOk x c then
    if fate = 1 then (x, (c.1, c.2.1, c.2.2.1 + 1, c.2.2.2), true)
    else (if fate = 3 then recv (recv x c.1 c.2.1) c.1 c.2.1 else recv x c.1 c.2.1, (c.1, c.2.1, c.2.2.1 + 1, !decide (fate = 2)), true)
  else (x, c, false)
theorem rc_recv {x : Le} {key cost : Int} (h : ledOk x = true) (hk : inR key 0 1000000 = true) (hc : inR cost 0 99 = true) (h1 : x.2.1 ≤ 999999000) (h2 : x.2.2 ≤ 999999000) : rc x key cost = (recv x key cost, true) := by
  unfold rc rcOk
  rw [h, hk, hc]
  have e1 : ¬ 999999000 < x.2.1 := by omega
  have e2 : ¬ 999999000 < x.2.2 := by omega
  simp [e1, e2]
theorem TryCall_S (x : Le) (c : Ca) (fate : Int) (hl : x.1.length ≤ 1048576) : S.TryCall x c fate = some (tc x c fate) := by
  unfold S.TryCall tc tcOk
  rw [show (x.1, x.2.1, x.2.2) = x from rfl, copyLedger_S x hl, IsLedger_S x hl, inS, inS, inS]
  cases h1 : ledOk x
  · rfl
  · obtain ⟨g1, -, g3, g4⟩ := led_parts h1
    cases h4 : inR c.1 0 1000000
    · rfl
    · cases h5 : inR c.2.1 0 99
      · rfl
      · cases h6 : inR c.2.2.1 0 1000
        · rfl
        · cases h7 : c.2.2.2
          · by_cases h8 : 999998000 < x.2.1
            · simp [h8, h7]; rw [← h7]
            · by_cases h9 : 999998000 < x.2.2
              · simp [h8, h9, h7]; rw [← h7]
              · rw [inR_iff] at h6
                by_cases hf : fate = 1
                · simp only [Option.bind_some, Bool.not_true, Bool.false_eq_true, if_false, h8, h9, decide_false, hf, decide_true, if_true, Bool.or_self, Bool.not_false, Bool.and_self]
                  rw [w64_sm (by omega) (by omega)]
                · have hs := led_sm h1
                  have hr := recv_ok (key := c.1) (cost := c.2.1) h1 (inR_iff.1 h4) (inR_iff.1 h5) (by omega) (by omega)
                  have hs2 := led_sm hr.1
                  simp only [Option.bind_some, Bool.not_true, Bool.false_eq_true, if_false, h8, h9, decide_false, hf, if_true, Bool.or_self, Bool.not_false, Bool.and_self]
                  rw [show (x.1, x.2.1, x.2.2) = x from rfl, ReceiveCall_S x _ _ hl, rc_recv h1 h4 h5 (by omega) (by omega), w64_sm (by omega) (by omega)]
                  simp only [Option.bind_some]
                  by_cases hf3 : fate = 3
                  · simp only [hf3, decide_true, if_true]
                    have e : ∀ y : Le, (y.1, y.2.1, y.2.2) = y := fun y => rfl
                    rw [e, ReceiveCall_S _ _ _ (by omega), rc_recv hr.1 h4 h5 (by omega) (by omega)]
                    rfl
                  · simp only [hf3, decide_false, Bool.false_eq_true, if_false]
                    rfl
          · simp [h7]; rw [← h7]
theorem TryCall_M (x : Le) (c : Ca) (fate : Int) (hl : x.1.length ≤ 1048576) : M.TryCall x c fate = some (tc x c fate) := by
  unfold M.TryCall tc tcOk M.isKey M.isCost
  rw [show (x.1, x.2.1, x.2.2) = x from rfl, copyLedger_M x hl, IsLedger_M x hl, inM, inM, inM]
  cases h1 : ledOk x
  · rfl
  · obtain ⟨g1, -, g3, g4⟩ := led_parts h1
    cases h4 : inR c.1 0 1000000
    · rfl
    · cases h5 : inR c.2.1 0 99
      · rfl
      · cases h6 : inR c.2.2.1 0 1000
        · rfl
        · cases h7 : c.2.2.2
          · by_cases h8 : 999998000 < x.2.1
            · simp [h8, h7]; rw [← h7]
            · by_cases h9 : 999998000 < x.2.2
              · simp [h8, h9, h7]; rw [← h7]
              · rw [inR_iff] at h6
                by_cases hf : fate = 1
                · simp only [Option.bind_some, Bool.not_true, Bool.false_eq_true, if_false, h8, h9, decide_false, hf, decide_true, if_true, Bool.or_self, Bool.not_false, Bool.and_self]
                  rw [w64_sm (by omega) (by omega)]
                · have hs := led_sm h1
                  have hr := recv_ok (key := c.1) (cost := c.2.1) h1 (inR_iff.1 h4) (inR_iff.1 h5) (by omega) (by omega)
                  have hs2 := led_sm hr.1
                  obtain ⟨k1, -, k3, k4⟩ := led_parts hr.1
                  have h5' := inR_iff.1 h5
                  simp only [Option.bind_some, Bool.not_true, Bool.false_eq_true, if_false, h8, h9, decide_false, hf, if_true, Bool.or_self, Bool.not_false, Bool.and_self]
                  rw [show (x.1, x.2.1, x.2.2) = x from rfl, receive_M x _ _ hl g1 g3.1 g3.2 g4.1 g4.2 h5'.1 h5'.2, w64_sm (by omega) (by omega)]
                  simp only [Option.bind_some]
                  by_cases hf3 : fate = 3
                  · simp only [hf3, decide_true, if_true]
                    have e : ∀ y : Le, (y.1, y.2.1, y.2.2) = y := fun y => rfl
                    rw [e, receive_M _ _ _ (by omega) k1 k3.1 k3.2 k4.1 k4.2 h5'.1 h5'.2]
                    rfl
                  · simp only [hf3, decide_false, Bool.false_eq_true, if_false]
                    rfl
          · simp [h7]; rw [← h7]
theorem tc_len (x : Le) (c : Ca) (fate : Int) (hl : x.1.length ≤ 1048576) : (tc x c fate).1.1.length ≤ 1048576 := by
  unfold tc
  split
  · rename_i h
    unfold tcOk at h
    simp only [Bool.and_eq_true, Bool.not_eq_true', Bool.or_eq_false_iff, decide_eq_false_iff_not, inR_iff] at h
    obtain ⟨h1, h2, h3, h4, h5, h6, h7⟩ := h
    have hr := recv_ok (key := c.1) (cost := c.2.1) h1 h2 h3 (by omega) (by omega)
    have hr2 := recv_ok (key := c.1) (cost := c.2.1) hr.1 h2 h3 (by omega) (by omega)
    have := led_sm hr.1
    have := led_sm hr2.1
    split
    · exact hl
    · split
      · show (recv (recv x c.1 c.2.1) c.1 c.2.1).1.length ≤ _; omega
      · show (recv x c.1 c.2.1).1.length ≤ _; omega
  · exact hl
theorem same_TryCall (x : Le) (c : Ca) (fate : Int) (z1 : SZ.sz x ≤ 1048576) (_ : SZ.sz c ≤ 1048576) (_ : SZ.sz fate ≤ 1048576) (_ : Rng.r x) (_ : Rng.r c) (_ : Rng.r fate) : ∃ r, S.TryCall x c fate = some r ∧ M.TryCall x c fate = some r ∧ SZ.sm r :=
  ⟨_, TryCall_S x c fate (sm_le.1 (sm_of z1)), TryCall_M x c fate (sm_le.1 (sm_of z1)), sm_le.2 (tc_len x c fate (sm_le.1 (sm_of z1))), ⟨trivial, trivial, trivial, trivial⟩, trivial⟩
end Go.Gx.Px
