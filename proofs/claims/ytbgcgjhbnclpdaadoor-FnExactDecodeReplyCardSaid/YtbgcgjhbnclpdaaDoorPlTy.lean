/- Plain laws: the frame of the laws at each type, printed by program. Conditions: none. -/
import Derived.Test.YtbgcgjhbnclpdaaDoorPlL
set_option linter.unusedVariables false
set_option linter.unusedSimpArgs false
namespace Go.Gx.Px
theorem eqIntS_refl (a : List Int) (h : SZ.sm a) : Q.eqIntS a a = some true := by
 have ha := (sm_list h).1
 unfold Q.eqIntS
 rw [if_neg (by simp), eq_loop (Q.eqIntS_l1 a a) a.length (by omega) (fun k => by rw [Q.eqIntS_l1, if_neg (by simp)]) (fun k i hi => by
  rw [Q.eqIntS_l1, if_pos (by simpa using hi), idx_nat a hi]; simp [w64_succ (show i < 4611686018427387904 by omega)])]
 rfl
theorem markIntS_eq (a : List Int) (c : Int) (h : SZ.sm a) (h0 : 0 ≤ c) (hb : c + mszL a ≤ 2305843009213693952) : Q.markIntS a c = some (c + mszL a, mkL a c) := by
 have hn := (sm_list h).1
 unfold Q.markIntS
 rw [mark_loop Q.markIntS_l1 a c (by omega) h0 hb (fun k x c => by rw [Q.markIntS_l1, if_neg (by simp)]) (fun k x c i hi _ h1 h2 h3 => by
  rw [Q.markIntS_l1, if_pos (by simpa using hi), idx_nat x hi]
  have h3' : c + 1 ≤ 2305843009213693952 := h3
  simp only [Option.bind_some, Int.toNat_natCast, w64_succ (show i < 4611686018427387904 by omega), w64_sm (show -4611686018427387904 ≤ c + 1 by omega) (by omega)]
  rfl)]
 rfl
theorem heldIntS_eq (a : List Int) (c : Int) (h : SZ.sm a) (h0 : 0 ≤ c) (hb : c + mszL a ≤ 2305843009213693952) : Q.heldIntS (mkL a c) c = some (c + mszL a) := by
 have hn := (sm_list h).1
 unfold Q.heldIntS
 rw [held_loop (Q.heldIntS_l1 (mkL a c)) a c (by omega) h0 hb (fun k c' => by rw [Q.heldIntS_l1, if_neg (by simp [mkL_length])]) (fun k c' i hi hx h2 h3 => by
  have h3' : c' + 1 ≤ 2305843009213693952 := h3
  rw [Q.heldIntS_l1, if_pos (by simpa [mkL_length] using hi), hx]
  simp only [Option.bind_some, w64_succ (show i < 4611686018427387904 by omega), w64_sm (show -4611686018427387904 ≤ c' + 1 by omega) (by omega)]
  rw [if_neg (by simp [MT.mq])]
  rfl)]
 rfl
theorem eqFact_refl (e : (Int × (List Int))) (h : SZ.sm e) : Q.eqFact e e = some true := by
 unfold Q.eqFact
 simp [eqIntS_refl e.2 h.2]
theorem eqFactS_refl (a : (List (Int × (List Int)))) (h : SZ.sm a) : Q.eqFactS a a = some true := by
 obtain ⟨ha, he⟩ := sm_list h
 unfold Q.eqFactS
 rw [if_neg (by simp), eq_loop (Q.eqFactS_l1 a a) a.length (by omega) (fun k => by rw [Q.eqFactS_l1, if_neg (by simp)]) (fun k i hi => by
  rw [Q.eqFactS_l1, if_pos (by simpa using hi), idx_nat a hi, Option.bind_some, Option.bind_some, eqFact_refl _ (he _ (List.getElem_mem hi)), Option.bind_some]
  simp [w64_succ (show i < 4611686018427387904 by omega)])]
 rfl
instance : MT (Int × (List Int)) := ⟨fun e c => (c, mkL e.2 (c + 1)), fun e => 1 + mszL e.2, 1 + 1048576 * MT.bd Int, fun e h => by
 have := mszL_bd h.2; omega⟩
theorem markFactS_eq (a : (List (Int × (List Int)))) (c : Int) (h : SZ.sm a) (h0 : 0 ≤ c) (hb : c + mszL a ≤ 2305843009213693952) : Q.markFactS a c = some (c + mszL a, mkL a c) := by
 obtain ⟨ha, he⟩ := sm_list h
 unfold Q.markFactS
 rw [mark_loop Q.markFactS_l1 a c (by omega) h0 hb (fun k x c => by rw [Q.markFactS_l1, if_neg (by simp)]) (fun k x c i hi hx h1 h2 h3 => by
  have h3' : c + ((1 + mszL x[i].2 : Nat) : Int) ≤ 2305843009213693952 := h3
  have hse := he _ hx
  rw [Q.markFactS_l1, if_pos (by simpa using hi), idx_nat x hi]
  simp only [Option.bind_some, Int.toNat_natCast, idx_set, List.length_set, hi, List.set_set, w64_succ (show i < 4611686018427387904 by omega), w64_sm (show -4611686018427387904 ≤ c + 1 by omega) (by omega), markIntS_eq x[i].2 (c + 1) hse.2 (by omega) (by omega)]
  rw [show c + 1 + (mszL x[i].2 : Int) = c + ((1 + mszL x[i].2 : Nat) : Int) by omega]
  rfl)]
 rfl
theorem heldFactS_eq (a : (List (Int × (List Int)))) (c : Int) (h : SZ.sm a) (h0 : 0 ≤ c) (hb : c + mszL a ≤ 2305843009213693952) : Q.heldFactS (mkL a c) c = some (c + mszL a) := by
 obtain ⟨ha, he⟩ := sm_list h
 unfold Q.heldFactS
 rw [held_loop (Q.heldFactS_l1 (mkL a c)) a c (by omega) h0 hb (fun k c' => by rw [Q.heldFactS_l1, if_neg (by simp [mkL_length])]) (fun k c' i hi hx h2 h3 => by
  have h3' : c' + ((1 + mszL a[i].2 : Nat) : Int) ≤ 2305843009213693952 := h3
  have hse := he _ (List.getElem_mem hi)
  rw [Q.heldFactS_l1, if_pos (by simpa [mkL_length] using hi), hx]
  simp only [Option.bind_some, MT.mq, decide_true, Bool.not_true, Bool.false_eq_true, if_false, w64_succ (show i < 4611686018427387904 by omega), w64_sm (show -4611686018427387904 ≤ c' + 1 by omega) (by omega), heldIntS_eq a[i].2 (c' + 1) hse.2 (by omega) (by omega), show decide (c' + 1 + (mszL a[i].2 : Int) < 0) = false by simp; omega]
  rw [show c' + 1 + (mszL a[i].2 : Int) = c' + ((1 + mszL a[i].2 : Nat) : Int) by omega]
  rfl)]
 rfl
end Go.Gx.Px
