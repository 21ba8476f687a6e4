/- Plain laws of the pure functions: varints and frames. Conditions: none. -/
import Derived.Test.YtnccdhglieidhaaPure
import Derived.Test.YtnccdhglieidhaaGxG
import Derived.Test.YtnccdhglieidhaaPlain1
set_option linter.unusedVariables false
set_option linter.unusedSimpArgs false
namespace Go.Gx.Px

theorem shr7 (x : Int) (h0 : 0 ≤ x) (h1 : x < 2 ^ 62) : shr x 7 = w64 (x.tdiv 128) := by
  have h2 : x.tdiv 128 = x / 128 := Int.tdiv_eq_ediv_of_nonneg h0
  have h3 : shr x 7 = x / 128 := by
    unfold shr
    rw [Int.fdiv_eq_ediv_of_nonneg _ (by decide)]
    rfl
  rw [h2, h3, w64_id (by omega) (by omega)]
theorem w8_mod (x : Int) : w8 x = x % 256 := by
  unfold w8
  simp [IntKind.wrap, IntKind.bits, IntKind.signed]
theorem or128 (n : Nat) : ((BitVec.ofNat 8 n) ||| 128#8).toNat = 128 + n % 128 := by
  have h : ∀ b : BitVec 8, (b ||| 128#8).toNat = 128 + b.toNat % 128 := by decide +kernel
  rw [h]
  simp
theorem byte_same (x : Int) (h0 : 0 ≤ x) : UInt8.ofNat (Int.toNat (bor8 (w8 x) 128)) = u8 (w64 (128 + x.tmod 128)) := by
  have h2 : x.tmod 128 = x % 128 := Int.tmod_eq_emod_of_nonneg h0
  have h4 : w64 (128 + x.tmod 128) = 128 + x % 128 := by rw [h2, w64_id (by omega) (by omega)]
  have h5 : bor8 (w8 x) 128 = 128 + x % 128 := by
    unfold bor8
    rw [w8_eq, w8_mod, w8_mod]
    have e1 : BitVec.ofInt 8 (x % 256) = BitVec.ofNat 8 (x % 256).toNat := by
      rw [← BitVec.ofInt_natCast]; congr 1; omega
    have e2 : BitVec.ofInt 8 128 = 128#8 := rfl
    rw [e1, e2, or128]
    omega
  rw [h5, h4]
  unfold u8
  rw [w8_mod]
  congr 1
  omega
theorem Varint_same : ∀ (n : Nat) (x : Int) (l : List UInt8), 0 ≤ x → x < 2 ^ 62 → M.EncodeVarint_l1 n x l = S.EncodeVarint_l1 n x l
  | 0, _, _, _, _ => rfl
  | n + 1, x, l, h0, h1 => by
    rw [M.EncodeVarint_l1, S.EncodeVarint_l1, byte_same x h0]
    by_cases hc : 128 ≤ x
    · rw [if_pos (by simpa using hc), if_pos (by simpa using hc), shr7 x h0 h1]
      have h2 : x.tdiv 128 = x / 128 := Int.tdiv_eq_ediv_of_nonneg h0
      have h3 : w64 (x.tdiv 128) = x / 128 := by rw [h2, w64_id (by omega) (by omega)]
      congr 1
      funext y
      rw [h3]
      exact Varint_same n (x / 128) y (by omega) (by omega)
    · rw [if_neg (by simpa using hc), if_neg (by simpa using hc)]
theorem app_ok {α : Type} (as bs : List α) (h : as.length + bs.length ≤ 4294967296) : app as bs = some (as ++ bs) := by
  unfold app; rw [if_pos (by rw [LIM_eq]; exact h)]
theorem Varint_ends : ∀ (b n : Nat) (x : Int) (l : List UInt8), 0 ≤ x → x < 2 ^ 62 → x < b → b ≤ n → l.length + b ≤ 4294967296 → ∃ y m, S.EncodeVarint_l1 n x l = some (y, m) ∧ m.length ≤ l.length + b ∧ 0 ≤ y
  | 0, n, x, l, h0, _, h, _, _ => by omega
  | b + 1, 0, x, l, h0, _, h, hn, _ => by omega
  | b + 1, n + 1, x, l, h0, h1, h2, hn, h3 => by
    rw [S.EncodeVarint_l1]
    by_cases hc : 128 ≤ x
    · have h4 : x.tdiv 128 = x / 128 := Int.tdiv_eq_ediv_of_nonneg h0
      have h5 : w64 (x.tdiv 128) = x / 128 := by rw [h4, w64_id (by omega) (by omega)]
      rw [if_pos (by simpa using hc), app_ok _ _ (by simp; omega), Option.bind_some, h5]
      obtain ⟨y, m, h6, h7, h8⟩ := Varint_ends b n (x / 128) (l ++ [u8 (w64 (128 + x.tmod 128))]) (by omega) (by omega) (by omega) (by omega) (by simp; omega)
      exact ⟨y, m, h6, by simp at h7; omega, h8⟩
    · rw [if_neg (by simpa using hc)]
      exact ⟨_, _, rfl, by omega, h0⟩
theorem in_S (a b c : Int) : S.l1In a b c = some (decide (b ≤ a) && decide (a ≤ c)) := by
  unfold S.l1In
  by_cases h : b ≤ a <;> simp [h]
theorem in_M (a b c : Int) : M.within a b c = some (decide (b ≤ a) && decide (a ≤ c)) := by
  unfold M.within
  by_cases h : b ≤ a <;> simp [h]
/-- the check byte of a short text is a byte -/
def catS (a b : Str) : Str := List.append a b
theorem catS_len (a b : Str) : List.length (catS a b) = List.length a + List.length b := List.length_append
theorem cat_ok (a b : Str) (h : List.length a + List.length b ≤ 4294967296) : cat a b = some (catS a b) :=
  if_pos (by rw [LIM_eq]; exact h)
theorem Varint_M (x : Int) (h0 : 0 ≤ x) (h1 : x < 2 ^ 40) : M.EncodeVarint x = S.EncodeVarint x := by
  unfold M.EncodeVarint S.EncodeVarint
  rw [in_S, in_M, Varint_same FUEL x [] h0 (by omega)]
theorem Varint_S (x : Int) (h0 : 0 ≤ x) (h1 : x < 100000) : ∃ r : Str, S.EncodeVarint x = some r ∧ List.length r ≤ 100001 := by
  unfold S.EncodeVarint
  obtain ⟨y, m, h2, h3, _⟩ := Varint_ends 100000 FUEL x [] h0 (by omega) (by omega) (by rw [FUEL_eq]; omega) (by simp)
  rw [in_S, Option.bind_some, if_neg (by simp; omega), h2, Option.bind_some]
  dsimp only
  rw [app_ok _ _ (by simp at h3 ⊢; omega), Option.bind_some]
  refine ⟨_, rfl, ?_⟩
  show (m ++ [u8 y]).length ≤ _
  simp at h3 ⊢; omega
theorem Fixed1 (x : Int) (h0 : 0 ≤ x) (h1 : x < 256) : S.EncodeFixed x 1 = some (Str.of [u8 x]) := by
  have hx : ¬ x < 0 := by omega
  unfold S.EncodeFixed
  rw [in_S]
  simp only [Option.bind_some]
  have e1 : (decide ((1 : Int) ≤ 1) && decide ((1 : Int) ≤ 7)) = true := rfl
  rw [e1]
  simp only [Bool.not_true, Bool.false_eq_true, if_false, Option.bind_some, hx, decide_false]
  have ef : FUEL = (FUEL - 2) + 2 := by rw [FUEL_eq]
  have h5 : x.tmod 256 = x := by rw [Int.tmod_eq_emod_of_nonneg h0]; omega
  have h6 : w64 (x.tdiv 256) = 0 := by rw [Int.tdiv_eq_ediv_of_nonneg h0, w64_id (by omega) (by omega)]; omega
  have h7 : w64 (0 + 1) = 1 := w64_id (by omega) (by omega)
  rw [ef, S.EncodeFixed_l1]
  rw [if_pos (by decide), h5, h6, h7, cat_ok _ _ (by show 1 + 0 ≤ _; omega), Option.bind_some, S.EncodeFixed_l1, if_neg (by decide)]
  rfl
theorem CheckByte_small (a : Str) : ∀ (n : Nat) (x i r : Int), 0 ≤ x → x < 256 → S.CheckByte_l1 a n x i = some r → 0 ≤ r ∧ r < 256
  | 0, x, i, r, _, _, h => by cases h
  | n + 1, x, i, r, h0, h1, h => by
    rw [S.CheckByte_l1] at h
    split at h
    · obtain ⟨c, hc, h⟩ := bind_some h
      refine CheckByte_small a n _ _ r ?_ ?_ h
      · have hb : (c.toNat : Int) < 256 := by have := c.toNat_lt; omega
        rw [w64_id (n := x * 31) (by omega) (by omega), w64_id (n := (c.toNat : Int)) (by omega) (by omega), w64_id (by omega) (by omega), Int.tmod_eq_emod_of_nonneg (by omega)]
        omega
      · have hb : (c.toNat : Int) < 256 := by have := c.toNat_lt; omega
        rw [w64_id (n := x * 31) (by omega) (by omega), w64_id (n := (c.toNat : Int)) (by omega) (by omega), w64_id (by omega) (by omega), Int.tmod_eq_emod_of_nonneg (by omega)]
        omega
    · cases h; exact ⟨h0, h1⟩
theorem p_FnExactFrameOf (a1 : Str) (h : Rng.r a1) : Q.FnExactFrameOf a1 = some true := by
  unfold Q.FnExactFrameOf S.FrameOf M.FrameOf
  by_cases hc : 1048576 < (List.length a1 : Int)
  · rw [if_pos (by simpa using hc)]
  · rw [if_neg (by simpa using hc)]
    by_cases hd : 200 < (List.length a1 : Int)
    · rw [if_pos (by simpa using hd), if_pos (by simpa using hd)]
      simp
    · rw [if_neg (by simpa using hd), if_neg (by simpa using hd), Varint_M _ (by omega) (by omega)]
      obtain ⟨v, hv, hl⟩ := Varint_S (List.length a1 : Int) (by omega) (by omega)
      obtain ⟨r, hr⟩ := CheckByte_ends a1 (by omega) FUEL 7 0 (by omega) (by omega) (by rw [FUEL_eq]; omega)
      obtain ⟨h0, h1⟩ := CheckByte_small a1 FUEL 7 0 r (by omega) (by omega) hr
      have hS : S.CheckByte a1 = some r := by unfold S.CheckByte; rw [hr]; rfl
      have hM : M.CheckByte a1 = some r := by unfold M.CheckByte; rw [← CheckByte_same, hr]; rfl
      have hcat := cat_ok v a1 (by omega)
      have hlen := catS_len v a1
      rw [hv, hS, hM, Option.bind_some, Option.bind_some, hcat, Option.bind_some, Option.bind_some, Option.bind_some, Option.bind_some, Fixed1 r h0 h1, Option.bind_some, cat_ok _ _ (by rw [hlen]; show _ + 1 ≤ _; omega)]
      simp
end Go.Gx.Px
