/- Plain laws: the frame of the laws at each type, printed by program. Conditions: none. -/
import Derived.Test.YtbfmhlhjkbimmaaGreatDoorPlL
set_option linter.unusedVariables false
set_option linter.unusedSimpArgs false
namespace Go.Gx.Px
theorem eqIntS_refl (a : List Int) (h : SZ.sm a) : Q.eqIntS a a = some true := by
  have ha := (sm_list h).1
  unfold Q.eqIntS
  rw [if_neg (by simp), eq_loop (Q.eqIntS_l1 a a) a.length (by omega) (fun k => by rw [Q.eqIntS_l1, if_neg (by simp)]) (fun k i hi => by
    rw [Q.eqIntS_l1, if_pos (by simpa using hi), idx_nat a hi]; simp [w64_succ (show i < 4611686018427387904 by omega)])]
  rfl
theorem markIntS_eq (a : List Int) (c : Int) (h : SZ.sm a) (h0 : 0 ≤ c) (hb : c + mszL a ≤ 2305843009213693952) : Q.markIntS a c = some (c + mszL a, mkL a c) := by
  have hn := (sm_list h).1
  unfold Q.markIntS
  rw [mark_loop Q.markIntS_l1 a c (by omega) h0 hb (fun k x c => by rw [Q.markIntS_l1, if_neg (by simp)]) (fun k x c i hi _ h1 h2 h3 => by
    rw [Q.markIntS_l1, if_pos (by simpa using hi), idx_nat x hi]
    have h3' : c + 1 ≤ 2305843009213693952 := h3
    simp only [Option.bind_some, Int.toNat_natCast, w64_succ (show i < 4611686018427387904 by omega), w64_sm (show -4611686018427387904 ≤ c + 1 by omega) (by omega)]
    rfl)]
  rfl
theorem heldIntS_eq (a : List Int) (c : Int) (h : SZ.sm a) (h0 : 0 ≤ c) (hb : c + mszL a ≤ 2305843009213693952) : Q.heldIntS (mkL a c) c = some (c + mszL a) := by
  have hn := (sm_list h).1
  unfold Q.heldIntS
  rw [held_loop (Q.heldIntS_l1 (mkL a c)) a c (by omega) h0 hb (fun k c' => by rw [Q.heldIntS_l1, if_neg (by simp [mkL_length])]) (fun k c' i hi hx h2 h3 => by
    have h3' : c' + 1 ≤ 2305843009213693952 := h3
    rw [Q.heldIntS_l1, if_pos (by simpa [mkL_length] using hi), hx]
    simp only [Option.bind_some, w64_succ (show i < 4611686018427387904 by omega), w64_sm (show -4611686018427387904 ≤ c' + 1 by omega) (by omega)]
    rw [if_neg (by simp [MT.mq])]
    rfl)]
  rfl
theorem eqAccess_refl (e : (Int × (List Int))) (h : SZ.sm e) : Q.eqAccess e e = some true := by
  unfold Q.eqAccess
  simp [eqIntS_refl e.2 h.2]
def mvAccess (e : (Int × (List Int))) (c : Int) : (Int × (List Int)) := (e.1, mkL e.2 (c))
def nvAccess (e : (Int × (List Int))) : Nat := mszL e.2
theorem markAccess_eq (e : (Int × (List Int))) (c : Int) (h : SZ.sm e) (h0 : 0 ≤ c) (hb : c + nvAccess e ≤ 2305843009213693952) : Q.markAccess e c = some (c + nvAccess e, mvAccess e c) := by
  have hb' : c + ((mszL e.2 : Nat) : Int) ≤ 2305843009213693952 := hb
  unfold Q.markAccess nvAccess mvAccess
  simp only [markIntS_eq e.2 (c) h.2 (by omega) (by omega), Option.bind_some, Prod.eta]
  all_goals exact congrArg some (Prod.ext (show c + (mszL e.2 : Int) = _ by omega) rfl)
theorem heldAccess_eq (e : (Int × (List Int))) (c : Int) (h : SZ.sm e) (h0 : 0 ≤ c) (hb : c + nvAccess e ≤ 2305843009213693952) : Q.heldAccess (mvAccess e c) c = some (c + nvAccess e) := by
  have hb' : c + ((mszL e.2 : Nat) : Int) ≤ 2305843009213693952 := hb
  unfold Q.heldAccess nvAccess mvAccess
  simp only [heldIntS_eq e.2 (c) h.2 (by omega) (by omega), Option.bind_some, Prod.eta, Bool.false_eq_true, if_false, show decide (c + (mszL e.2 : Int) < 0) = false by simp; omega]
  all_goals exact congrArg some (by omega)
theorem eqCursor_refl (e : ((Int × (List Int)) × Int × Int)) (h : SZ.sm e) : Q.eqCursor e e = some true := by
  unfold Q.eqCursor
  simp [eqAccess_refl e.1 h.1]
def mvCursor (e : ((Int × (List Int)) × Int × Int)) (c : Int) : ((Int × (List Int)) × Int × Int) := (mvAccess e.1 (c), e.2.1, e.2.2)
def nvCursor (e : ((Int × (List Int)) × Int × Int)) : Nat := nvAccess e.1
theorem markCursor_eq (e : ((Int × (List Int)) × Int × Int)) (c : Int) (h : SZ.sm e) (h0 : 0 ≤ c) (hb : c + nvCursor e ≤ 2305843009213693952) : Q.markCursor e c = some (c + nvCursor e, mvCursor e c) := by
  have hb' : c + ((nvAccess e.1 : Nat) : Int) ≤ 2305843009213693952 := hb
  unfold Q.markCursor nvCursor mvCursor
  simp only [markAccess_eq e.1 (c) h.1 (by omega) (by omega), Option.bind_some, Prod.eta]
  all_goals exact congrArg some (Prod.ext (show c + (nvAccess e.1 : Int) = _ by omega) rfl)
theorem heldCursor_eq (e : ((Int × (List Int)) × Int × Int)) (c : Int) (h : SZ.sm e) (h0 : 0 ≤ c) (hb : c + nvCursor e ≤ 2305843009213693952) : Q.heldCursor (mvCursor e c) c = some (c + nvCursor e) := by
  have hb' : c + ((nvAccess e.1 : Nat) : Int) ≤ 2305843009213693952 := hb
  unfold Q.heldCursor nvCursor mvCursor
  simp only [heldAccess_eq e.1 (c) h.1 (by omega) (by omega), Option.bind_some, Prod.eta, Bool.false_eq_true, if_false, show decide (c + (nvAccess e.1 : Int) < 0) = false by simp; omega]
  all_goals exact congrArg some (by omega)
end Go.Gx.Px
