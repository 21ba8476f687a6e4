/- Plain laws: the frame's functions at lists of numbers. Conditions: none. -/
import Derived.Test.YtnlaijbfggelfaaPl0
set_option linter.unusedVariables false
set_option linter.unusedSimpArgs false
namespace Go.Gx.Px
theorem eqIntS_refl (a : List Int) (ha : a.length ≤ 4294967296) : Q.eqIntS a a = some true := by
  unfold Q.eqIntS
  rw [if_neg (by simp), eq_loop (Q.eqIntS_l1 a a) a.length ha (fun k => by rw [Q.eqIntS_l1, if_neg (by simp)]) (fun k i hi => by
    rw [Q.eqIntS_l1, if_pos (by simpa using hi), idx_nat a hi]; simp [w64_succ (show i < 4611686018427387904 by omega)])]
  rfl
theorem markIntS_eq (a : List Int) (c : Int) (hn : a.length ≤ 4294967296) (h0 : 0 ≤ c) (hb : c + a.length ≤ 2305843009213693952) : Q.markIntS a c = some (c + a.length, mkL a c) := by
  unfold Q.markIntS
  have hm := mszL_int a
  rw [mark_loop Q.markIntS_l1 a c hn h0 (by rw [hm]; exact hb) (fun k x c => by rw [Q.markIntS_l1, if_neg (by simp)]) (fun k x c i hi _ h1 h2 h3 => by
    rw [Q.markIntS_l1, if_pos (by simpa using hi), idx_nat x hi]
    have h3' : c + 1 ≤ 2305843009213693952 := h3
    simp only [Option.bind_some, Int.toNat_natCast, w64_succ (show i < 4611686018427387904 by omega), w64_sm (show -4611686018427387904 ≤ c + 1 by omega) (by omega)]
    rfl), hm]
  rfl
theorem heldIntS_eq (a : List Int) (c : Int) (hn : a.length ≤ 4294967296) (h0 : 0 ≤ c) (hb : c + a.length ≤ 2305843009213693952) : Q.heldIntS (mkL a c) c = some (c + a.length) := by
  unfold Q.heldIntS
  have hm := mszL_int a
  rw [held_loop (Q.heldIntS_l1 (mkL a c)) a c hn h0 (by rw [hm]; exact hb) (fun k c' => by rw [Q.heldIntS_l1, if_neg (by simp [mkL_length])]) (fun k c' i hi hx h2 h3 => by
    have h3' : c' + 1 ≤ 2305843009213693952 := h3
    rw [Q.heldIntS_l1, if_pos (by simpa [mkL_length] using hi), hx]
    simp only [Option.bind_some, w64_succ (show i < 4611686018427387904 by omega), w64_sm (show -4611686018427387904 ≤ c' + 1 by omega) (by omega)]
    rw [if_neg (by simp [MT.mq])]
    rfl), hm]
  rfl
theorem toIntS_id (a : List Int) (ha : a.length ≤ 4294967296) : Q.toIntS a = some a := by
  unfold Q.toIntS mk
  rw [if_pos (by rw [LIM_eq]; omega), Option.bind_some, to_loop (Q.toIntS_l1 a) a _ (by simp) ha (fun k x => by rw [Q.toIntS_l1, if_neg (by simp)]) (fun k x i hi hl => by
    rw [Q.toIntS_l1, if_pos (by simpa using hi), idx_nat a hi, Option.bind_some, idx_nat x (by omega), Option.bind_some, w64_succ (by omega), Int.toNat_natCast])]
  rfl
theorem szIntS_eq (a : List Int) (x : Int) (h0 : 0 ≤ x) (h1 : x ≤ 1048576) (ha : a.length ≤ maxLen) : Q.szIntS a x = some (left (SZ.sz a) x) := by
  unfold Q.szIntS left
  rw [sz_flat (fun _ => rfl) a, w64_id (by simp only [maxLen] at ha; omega) (by omega)]
  by_cases h : (a.length : Int) ≤ x
  · rw [if_neg (by simp; omega), if_pos h]
  · rw [if_pos (by simp; omega), if_neg h]
end Go.Gx.Px
