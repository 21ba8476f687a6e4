/- Plain laws: the frame of the laws at each type, printed by program. Conditions: none. -/
import Derived.Test.YtnccdhglieidhaaPl0
set_option linter.unusedVariables false
set_option linter.unusedSimpArgs false
namespace Go.Gx.Px
def catS (a b : Str) : Str := List.append a b
theorem catS_len (a b : Str) : List.length (catS a b) = List.length a + List.length b := List.length_append
theorem cat_ok (a b : Str) (h : List.length a + List.length b ≤ 4294967296) : cat a b = some (catS a b) :=
  if_pos (by rw [LIM_eq]; exact h)
theorem markText_l : ∀ (b K : Nat) (x : Int) (s : Str), 0 ≤ x → x < (10 : Int) ^ b → x < 9223372036854775808 → b ≤ K → List.length s + b ≤ 1000 → ∃ r : Str, Q.markText_l1 (K + 1) x s = some r ∧ List.length r ≤ List.length s + b := by
  intro b
  induction b with
  | zero =>
    intro K x s h0 h1 h9 h2 h3
    rw [Q.markText_l1, if_neg (by simp at h1 ⊢; omega)]
    exact ⟨s, rfl, by omega⟩
  | succ b ih =>
    intro K x s h0 h1 h9 h2 h3
    rw [Q.markText_l1]
    by_cases hx : 0 < x
    · obtain ⟨K, rfl⟩ : ∃ k, K = k + 1 := ⟨K - 1, by omega⟩
      rw [Int.pow_succ] at h1
      have h5 : w64 (x.tdiv 10) = x / 10 := by rw [Int.tdiv_eq_ediv_of_nonneg h0, w64_id (by omega) (by omega)]
      have h8 : List.length (Str.of [u8 (w64 (48 + x.tmod 10))]) = 1 := rfl
      have h7 := catS_len (Str.of [u8 (w64 (48 + x.tmod 10))]) s
      rw [if_pos (by simpa using hx), cat_ok _ _ (by omega), Option.bind_some, h5]
      generalize (10 : Int) ^ b = P at h1 ih
      obtain ⟨r, h6, h7'⟩ := ih K (x / 10) (catS (Str.of [u8 (w64 (48 + x.tmod 10))]) s) (by omega) (by omega) (by omega) (by omega) (by omega)
      exact ⟨r, h6, by omega⟩
    · rw [if_neg (by simpa using hx)]
      exact ⟨s, rfl, by omega⟩
def markT (c : Int) : Str := (Q.markText c).getD []
theorem markText_eq (c : Int) (h0 : 0 ≤ c) (h : c ≤ 2305843009213693952) : Q.markText c = some (markT c) := by
  have : ∃ r, Q.markText c = some r := by
    unfold Q.markText
    by_cases hc : c ≤ 0
    · rw [if_pos (by simpa using hc)]; exact ⟨_, rfl⟩
    · rw [if_neg (by simpa using hc)]
      obtain ⟨r, h1, h2⟩ := markText_l 19 (FUEL - 1) c (str []) h0 (by omega) (by omega) (by rw [FUEL_eq]; omega) (by show 0 + 19 ≤ _; omega)
      rw [show FUEL - 1 + 1 = FUEL by rw [FUEL_eq]] at h1
      have h3 : List.length (str []) = 0 := rfl
      have h4 : List.length (str [109]) = 1 := rfl
      rw [h1, Option.bind_some, cat_ok _ _ (by omega)]
      exact ⟨_, rfl⟩
  obtain ⟨r, h⟩ := this
  unfold markT; rw [h]; rfl
instance : MT Str := ⟨fun _ c => markT c, fun _ => 1, 1, fun _ _ => Nat.le_refl _⟩
theorem eqStringS_refl (a : List Str) (h : SZ.sm a) : Q.eqStringS a a = some true := by
  have ha := (sm_list h).1
  unfold Q.eqStringS
  rw [if_neg (by simp), eq_loop (Q.eqStringS_l1 a a) a.length (by omega) (fun k => by rw [Q.eqStringS_l1, if_neg (by simp)]) (fun k i hi => by
    rw [Q.eqStringS_l1, if_pos (by simpa using hi), idx_nat a hi]; simp [w64_succ (show i < 4611686018427387904 by omega)])]
  rfl
theorem markStringS_eq (a : List Str) (c : Int) (h : SZ.sm a) (h0 : 0 ≤ c) (hb : c + mszL a ≤ 2305843009213693952) : Q.markStringS a c = some (c + mszL a, mkL a c) := by
  have hn := (sm_list h).1
  unfold Q.markStringS
  rw [mark_loop Q.markStringS_l1 a c (by omega) h0 hb (fun k x c => by rw [Q.markStringS_l1, if_neg (by simp)]) (fun k x c i hi _ h1 h2 h3 => by
    have h3' : c + 1 ≤ 2305843009213693952 := h3
    rw [Q.markStringS_l1, if_pos (by simpa using hi), markText_eq c h2 (by omega), Option.bind_some, idx_nat x hi]
    simp only [Option.bind_some, Int.toNat_natCast, w64_succ (show i < 4611686018427387904 by omega), w64_sm (show -4611686018427387904 ≤ c + 1 by omega) (by omega)]
    rfl)]
  rfl
theorem heldStringS_eq (a : List Str) (c : Int) (h : SZ.sm a) (h0 : 0 ≤ c) (hb : c + mszL a ≤ 2305843009213693952) : Q.heldStringS (mkL a c) c = some (c + mszL a) := by
  have hn := (sm_list h).1
  unfold Q.heldStringS
  rw [held_loop (Q.heldStringS_l1 (mkL a c)) a c (by omega) h0 hb (fun k c' => by rw [Q.heldStringS_l1, if_neg (by simp [mkL_length])]) (fun k c' i hi hx h2 h3 => by
    have h3' : c' + 1 ≤ 2305843009213693952 := h3
    rw [Q.heldStringS_l1, if_pos (by simpa [mkL_length] using hi), hx, Option.bind_some, markText_eq c' h2 (by omega)]
    simp only [Option.bind_some, w64_succ (show i < 4611686018427387904 by omega), w64_sm (show -4611686018427387904 ≤ c' + 1 by omega) (by omega)]
    rw [if_neg (by simp [MT.mq])]
    rfl)]
  rfl
end Go.Gx.Px
