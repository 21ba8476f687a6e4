/- Plain laws: the frame of the laws at each type, printed by program. Conditions: none. -/
import Derived.Test.YtbgcgjhbnclpdaaDoorPlL
set_option linter.unusedVariables false
set_option linter.unusedSimpArgs false
namespace Go.Gx.Px
theorem eqIntS_refl (a : List Int) (h : SZ.sm a) : Q.eqIntS a a = some true := by
 have ha := (sm_list h).1
 unfold Q.eqIntS
 rw [if_neg (by simp), eq_loop (Q.eqIntS_l1 a a) a.length (by omega) (fun k => by rw [Q.eqIntS_l1, if_neg (by simp)]) (fun k i hi => by
  rw [Q.eqIntS_l1, if_pos (by simpa using hi), idx_nat a hi]; simp [w64_succ (show i < 4611686018427387904 by omega)])]
 rfl
theorem toIntS_id (a : List Int) (h : SZ.sm a) : Q.toIntS a = some a := by
 have ha := (sm_list h).1
 unfold Q.toIntS mk
 rw [if_pos (by rw [LIM_eq]; omega), Option.bind_some, to_loop (Q.toIntS_l1 a) a _ (by simp) (by omega) (fun k x => by rw [Q.toIntS_l1, if_neg (by simp)]) (fun k x i hi hl => by
  rw [Q.toIntS_l1, if_pos (by simpa using hi), idx_nat a hi, Option.bind_some, idx_nat x (by omega), Option.bind_some, w64_succ (by omega), Int.toNat_natCast])]
 rfl
theorem szIntS_eq (a : (List Int)) (x : Int) (h0 : 0 ≤ x) (h1 : x ≤ 1048576) (hr : Rng.r a) : Q.szIntS a x = some (left (SZ.sz a) x) := by
 have ha : a.length ≤ maxLen := hr.1
 unfold Q.szIntS left
 rw [sz_flat (fun e => rfl), w64_id (by simp only [maxLen] at ha; omega) (by omega)]
 by_cases h : (a.length : Int) ≤ x
 ·rw [if_neg (by simp; omega), if_pos h]
 ·rw [if_pos (by simp; omega), if_neg h]
theorem szAccess_eq (e : (Int × (List Int))) (x : Int) (h0 : 0 ≤ x) (h1 : x ≤ 1048576) (hr : Rng.r e) : Q.szAccess e x = some (left (SZ.sz e) x) := by
 have he : SZ.sz e = (0 + SZ.sz e.2) := rfl
 unfold Q.szAccess
 have e0 : Q.szIntS e.2 (x) = some (left (SZ.sz e.2) (x)) := szIntS_eq _ _ (by omega) (by omega) hr.2
 rw [e0, Option.bind_some]
 by_cases c0 : (SZ.sz e.2 : Int) ≤ x
 ·rw [if_neg (by rw [show left (SZ.sz e.2) (x) = x - SZ.sz e.2 from if_pos c0]; simp <;> omega), show left (SZ.sz e.2) (x) = x - SZ.sz e.2 from if_pos c0]
  unfold left; rw [he, if_pos (by omega)]; exact congrArg some (by omega)
 ·rw [if_pos (by rw [show left (SZ.sz e.2) _ = -1 from if_neg c0]; simp)]; unfold left; rw [he, if_neg (by omega)]
theorem toAccess_id (e : (Int × (List Int))) (h : SZ.sm e) : Q.toAccess e = some e := by
 unfold Q.toAccess
 simp only [toIntS_id e.2 h.2, Option.bind_some]
theorem eqAccess_refl (e : (Int × (List Int))) (h : SZ.sm e) : Q.eqAccess e e = some true := by
 unfold Q.eqAccess
 simp [eqIntS_refl e.2 h.2]
theorem szCursor_eq (e : ((Int × (List Int)) × Int × Int)) (x : Int) (h0 : 0 ≤ x) (h1 : x ≤ 1048576) (hr : Rng.r e) : Q.szCursor e x = some (left (SZ.sz e) x) := by
 have he : SZ.sz e = (SZ.sz e.1 + (0 + 0)) := rfl
 unfold Q.szCursor
 have e0 : Q.szAccess e.1 (x) = some (left (SZ.sz e.1) (x)) := szAccess_eq _ _ (by omega) (by omega) hr.1
 rw [e0, Option.bind_some]
 by_cases c0 : (SZ.sz e.1 : Int) ≤ x
 ·rw [if_neg (by rw [show left (SZ.sz e.1) (x) = x - SZ.sz e.1 from if_pos c0]; simp <;> omega), show left (SZ.sz e.1) (x) = x - SZ.sz e.1 from if_pos c0]
  unfold left; rw [he, if_pos (by omega)]; exact congrArg some (by omega)
 ·rw [if_pos (by rw [show left (SZ.sz e.1) _ = -1 from if_neg c0]; simp)]; unfold left; rw [he, if_neg (by omega)]
theorem toCursor_id (e : ((Int × (List Int)) × Int × Int)) (h : SZ.sm e) : Q.toCursor e = some e := by
 unfold Q.toCursor
 simp only [toAccess_id e.1 h.1, Option.bind_some]
theorem eqCursor_refl (e : ((Int × (List Int)) × Int × Int)) (h : SZ.sm e) : Q.eqCursor e e = some true := by
 unfold Q.eqCursor
 simp [eqAccess_refl e.1 h.1]
end Go.Gx.Px
