/- Plain laws: the frame of the laws at each type, printed by program. Conditions: none. -/
import Derived.Test.YtbgcgjhbnclpdaaDoorPlL
set_option linter.unusedVariables false
set_option linter.unusedSimpArgs false
namespace Go.Gx.Px
theorem eqIntS_refl (a : List Int) (h : SZ.sm a) : Q.eqIntS a a = some true := by
 have ha := (sm_list h).1
 unfold Q.eqIntS
 rw [if_neg (by simp), eq_loop (Q.eqIntS_l1 a a) a.length (by omega) (fun k => by rw [Q.eqIntS_l1, if_neg (by simp)]) (fun k i hi => by
  rw [Q.eqIntS_l1, if_pos (by simpa using hi), idx_nat a hi]; simp [w64_succ (show i < 4611686018427387904 by omega)])]
 rfl
theorem toIntS_id (a : List Int) (h : SZ.sm a) : Q.toIntS a = some a := by
 have ha := (sm_list h).1
 unfold Q.toIntS mk
 rw [if_pos (by rw [LIM_eq]; omega), Option.bind_some, to_loop (Q.toIntS_l1 a) a _ (by simp) (by omega) (fun k x => by rw [Q.toIntS_l1, if_neg (by simp)]) (fun k x i hi hl => by
  rw [Q.toIntS_l1, if_pos (by simpa using hi), idx_nat a hi, Option.bind_some, idx_nat x (by omega), Option.bind_some, w64_succ (by omega), Int.toNat_natCast])]
 rfl
theorem szIntS_eq (a : (List Int)) (x : Int) (h0 : 0 ≤ x) (h1 : x ≤ 1048576) (hr : Rng.r a) : Q.szIntS a x = some (left (SZ.sz a) x) := by
 have ha : a.length ≤ maxLen := hr.1
 unfold Q.szIntS left
 rw [sz_flat (fun e => rfl), w64_id (by simp only [maxLen] at ha; omega) (by omega)]
 by_cases h : (a.length : Int) ≤ x
 ·rw [if_neg (by simp; omega), if_pos h]
 ·rw [if_pos (by simp; omega), if_neg h]
theorem szFact_eq (e : (Int × (List Int))) (x : Int) (h0 : 0 ≤ x) (h1 : x ≤ 1048576) (hr : Rng.r e) : Q.szFact e x = some (left (SZ.sz e) x) := by
 have he : SZ.sz e = (0 + SZ.sz e.2) := rfl
 unfold Q.szFact
 have e0 : Q.szIntS e.2 (x) = some (left (SZ.sz e.2) (x)) := szIntS_eq _ _ (by omega) (by omega) hr.2
 rw [e0, Option.bind_some]
 by_cases c0 : (SZ.sz e.2 : Int) ≤ x
 ·rw [if_neg (by rw [show left (SZ.sz e.2) (x) = x - SZ.sz e.2 from if_pos c0]; simp <;> omega), show left (SZ.sz e.2) (x) = x - SZ.sz e.2 from if_pos c0]
  unfold left; rw [he, if_pos (by omega)]; exact congrArg some (by omega)
 ·rw [if_pos (by rw [show left (SZ.sz e.2) _ = -1 from if_neg c0]; simp)]; unfold left; rw [he, if_neg (by omega)]
theorem toFact_id (e : (Int × (List Int))) (h : SZ.sm e) : Q.toFact e = some e := by
 unfold Q.toFact
 simp only [toIntS_id e.2 h.2, Option.bind_some]
theorem eqFact_refl (e : (Int × (List Int))) (h : SZ.sm e) : Q.eqFact e e = some true := by
 unfold Q.eqFact
 simp [eqIntS_refl e.2 h.2]
theorem szFactS_eq (a : (List (Int × (List Int)))) (x : Int) (h0 : 0 ≤ x) (h1 : x ≤ 1048576) (hr : Rng.r a) : Q.szFactS a x = some (left (SZ.sz a) x) := by
 obtain ⟨ha, he⟩ : a.length ≤ maxLen ∧ ∀ e ∈ a, Rng.r e := hr
 unfold Q.szFactS left
 have e : SZ.sz a = a.length + szs a := rfl
 rw [w64_id (by simp only [maxLen] at ha; omega) (by omega)]
 by_cases h : (a.length : Int) ≤ x
 ·have hl := sz_loop (Q.szFactS_l1 a) a (by omega) (fun k x => by rw [Q.szFactS_l1, if_neg (by simp)]) (fun k x i hi h2 h3 => by
   rw [Q.szFactS_l1, if_pos (by simpa using hi), idx_nat a hi, Option.bind_some, szFact_eq _ x h2 h3 (he _ (List.getElem_mem hi)), Option.bind_some]
   by_cases h4 : (SZ.sz a[i] : Int) ≤ x
   ·rw [if_neg (by simp [left_neg h2]; exact h4), if_pos h4, w64_succ (by omega)]; unfold left; rw [if_pos h4]
   ·rw [if_pos (by simp [left_neg h2]; omega), if_neg h4]) FUEL 0 (x - a.length) (by omega) (by rw [FUEL_eq]; omega) (by omega) (by omega)
  rw [if_neg (by simp; omega), show (0 : Int) = ((0 : Nat) : Int) from rfl, hl, List.drop_zero]
  by_cases h5 : (szs a : Int) ≤ x - a.length
  ·rw [if_pos h5, if_pos (by omega), Option.bind_some]; simp only; congr 1; omega
  ·rw [if_neg h5, if_neg (by omega), Option.bind_some]
 ·rw [if_pos (by simp; omega), if_neg (by omega)]
theorem toFactS_id (a : (List (Int × (List Int)))) (h : SZ.sm a) : Q.toFactS a = some a := by
 obtain ⟨ha, he⟩ := sm_list h
 unfold Q.toFactS mk
 rw [if_pos (by rw [LIM_eq]; omega), Option.bind_some, to_loop (Q.toFactS_l1 a) a _ (by simp) (by omega) (fun k x => by rw [Q.toFactS_l1, if_neg (by simp)]) (fun k x i hi hl => by
  rw [Q.toFactS_l1, if_pos (by simpa using hi), idx_nat a hi, Option.bind_some, toFact_id _ (he _ (List.getElem_mem hi)), Option.bind_some, idx_nat x (by omega), Option.bind_some, w64_succ (by omega), Int.toNat_natCast])]
 rfl
theorem eqFactS_refl (a : (List (Int × (List Int)))) (h : SZ.sm a) : Q.eqFactS a a = some true := by
 obtain ⟨ha, he⟩ := sm_list h
 unfold Q.eqFactS
 rw [if_neg (by simp), eq_loop (Q.eqFactS_l1 a a) a.length (by omega) (fun k => by rw [Q.eqFactS_l1, if_neg (by simp)]) (fun k i hi => by
  rw [Q.eqFactS_l1, if_pos (by simpa using hi), idx_nat a hi, Option.bind_some, Option.bind_some, eqFact_refl _ (he _ (List.getElem_mem hi)), Option.bind_some]
  simp [w64_succ (show i < 4611686018427387904 by omega)])]
 rfl
end Go.Gx.Px
