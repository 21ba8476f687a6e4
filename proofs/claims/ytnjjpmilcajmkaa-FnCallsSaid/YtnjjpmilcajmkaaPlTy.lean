/- Plain laws: the frame of the laws at each type, printed by program. Conditions: none. -/
import Derived.Test.YtnjjpmilcajmkaaPl0
set_option linter.unusedVariables false
set_option linter.unusedSimpArgs false
namespace Go.Gx.Px
theorem eqIntS_refl (a : List Int) (h : SZ.sm a) : Q.eqIntS a a = some true := by
  have ha := (sm_list h).1
  unfold Q.eqIntS
  rw [if_neg (by simp), eq_loop (Q.eqIntS_l1 a a) a.length (by omega) (fun k => by rw [Q.eqIntS_l1, if_neg (by simp)]) (fun k i hi => by
    rw [Q.eqIntS_l1, if_pos (by simpa using hi), idx_nat a hi]; simp [w64_succ (show i < 4611686018427387904 by omega)])]
  rfl
theorem markIntS_eq (a : List Int) (c : Int) (h : SZ.sm a) (h0 : 0 ≤ c) (hb : c + mszL a ≤ 2305843009213693952) : Q.markIntS a c = some (c + mszL a, mkL a c) := by
  have hn := (sm_list h).1
  unfold Q.markIntS
  rw [mark_loop Q.markIntS_l1 a c (by omega) h0 hb (fun k x c => by rw [Q.markIntS_l1, if_neg (by simp)]) (fun k x c i hi _ h1 h2 h3 => by
    rw [Q.markIntS_l1, if_pos (by simpa using hi), idx_nat x hi]
    have h3' : c + 1 ≤ 2305843009213693952 := h3
    simp only [Option.bind_some, Int.toNat_natCast, w64_succ (show i < 4611686018427387904 by omega), w64_sm (show -4611686018427387904 ≤ c + 1 by omega) (by omega)]
    rfl)]
  rfl
theorem heldIntS_eq (a : List Int) (c : Int) (h : SZ.sm a) (h0 : 0 ≤ c) (hb : c + mszL a ≤ 2305843009213693952) : Q.heldIntS (mkL a c) c = some (c + mszL a) := by
  have hn := (sm_list h).1
  unfold Q.heldIntS
  rw [held_loop (Q.heldIntS_l1 (mkL a c)) a c (by omega) h0 hb (fun k c' => by rw [Q.heldIntS_l1, if_neg (by simp [mkL_length])]) (fun k c' i hi hx h2 h3 => by
    have h3' : c' + 1 ≤ 2305843009213693952 := h3
    rw [Q.heldIntS_l1, if_pos (by simpa [mkL_length] using hi), hx]
    simp only [Option.bind_some, w64_succ (show i < 4611686018427387904 by omega), w64_sm (show -4611686018427387904 ≤ c' + 1 by omega) (by omega)]
    rw [if_neg (by simp [MT.mq])]
    rfl)]
  rfl
theorem toIntS_id (a : List Int) (h : SZ.sm a) : Q.toIntS a = some a := by
  have ha := (sm_list h).1
  unfold Q.toIntS mk
  rw [if_pos (by rw [LIM_eq]; omega), Option.bind_some, to_loop (Q.toIntS_l1 a) a _ (by simp) (by omega) (fun k x => by rw [Q.toIntS_l1, if_neg (by simp)]) (fun k x i hi hl => by
    rw [Q.toIntS_l1, if_pos (by simpa using hi), idx_nat a hi, Option.bind_some, idx_nat x (by omega), Option.bind_some, w64_succ (by omega), Int.toNat_natCast])]
  rfl
theorem szIntS_eq (a : (List Int)) (x : Int) (h0 : 0 ≤ x) (h1 : x ≤ 1048576) (hr : Rng.r a) : Q.szIntS a x = some (left (SZ.sz a) x) := by
  have ha : a.length ≤ maxLen := hr.1
  unfold Q.szIntS left
  rw [sz_flat (fun e => rfl), w64_id (by simp only [maxLen] at ha; omega) (by omega)]
  by_cases h : (a.length : Int) ≤ x
  · rw [if_neg (by simp; omega), if_pos h]
  · rw [if_pos (by simp; omega), if_neg h]
theorem szLedger_eq (e : ((List Int) × Int × Int)) (x : Int) (h0 : 0 ≤ x) (h1 : x ≤ 1048576) (hr : Rng.r e) : Q.szLedger e x = some (left (SZ.sz e) x) := by
  have he : SZ.sz e = (SZ.sz e.1 + (0 + 0)) := rfl
  unfold Q.szLedger
  have e0 : Q.szIntS e.1 (x) = some (left (SZ.sz e.1) (x)) := szIntS_eq _ _ (by omega) (by omega) hr.1
  rw [e0, Option.bind_some]
  by_cases c0 : (SZ.sz e.1 : Int) ≤ x
  · rw [if_neg (by rw [show left (SZ.sz e.1) (x) = x - SZ.sz e.1 from if_pos c0]; simp <;> omega), show left (SZ.sz e.1) (x) = x - SZ.sz e.1 from if_pos c0]
    unfold left; rw [he, if_pos (by omega)]; exact congrArg some (by omega)
  · rw [if_pos (by rw [show left (SZ.sz e.1) _ = -1 from if_neg c0]; simp)]; unfold left; rw [he, if_neg (by omega)]
theorem toLedger_id (e : ((List Int) × Int × Int)) (h : SZ.sm e) : Q.toLedger e = some e := by
  unfold Q.toLedger
  simp only [toIntS_id e.1 h.1, Option.bind_some]
theorem eqLedger_refl (e : ((List Int) × Int × Int)) (h : SZ.sm e) : Q.eqLedger e e = some true := by
  unfold Q.eqLedger
  simp [eqIntS_refl e.1 h.1]
def mvLedger (e : ((List Int) × Int × Int)) (c : Int) : ((List Int) × Int × Int) := (mkL e.1 (c), e.2.1, e.2.2)
def nvLedger (e : ((List Int) × Int × Int)) : Nat := mszL e.1
theorem markLedger_eq (e : ((List Int) × Int × Int)) (c : Int) (h : SZ.sm e) (h0 : 0 ≤ c) (hb : c + nvLedger e ≤ 2305843009213693952) : Q.markLedger e c = some (c + nvLedger e, mvLedger e c) := by
  have hb' : c + ((mszL e.1 : Nat) : Int) ≤ 2305843009213693952 := hb
  unfold Q.markLedger nvLedger mvLedger
  simp only [markIntS_eq e.1 (c) h.1 (by omega) (by omega), Option.bind_some, Prod.eta]
  all_goals exact congrArg some (Prod.ext (show c + (mszL e.1 : Int) = _ by omega) rfl)
theorem heldLedger_eq (e : ((List Int) × Int × Int)) (c : Int) (h : SZ.sm e) (h0 : 0 ≤ c) (hb : c + nvLedger e ≤ 2305843009213693952) : Q.heldLedger (mvLedger e c) c = some (c + nvLedger e) := by
  have hb' : c + ((mszL e.1 : Nat) : Int) ≤ 2305843009213693952 := hb
  unfold Q.heldLedger nvLedger mvLedger
  simp only [heldIntS_eq e.1 (c) h.1 (by omega) (by omega), Option.bind_some, Prod.eta, Bool.false_eq_true, if_false, show decide (c + (mszL e.1 : Int) < 0) = false by simp; omega]
  all_goals exact congrArg some (by omega)
end Go.Gx.Px
