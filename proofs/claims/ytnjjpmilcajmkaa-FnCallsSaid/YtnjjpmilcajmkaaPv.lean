/- Plain laws: many calls. Conditions: none. -/
import Derived.Test.YtnjjpmilcajmkaaPu
set_option linter.unusedVariables false
set_option linter.unusedSimpArgs false
namespace Go.Gx.Px
/-- what each call takes of the fates -/
theorem part_eq (fs : List Int) (cs : List Ca) (hf : fs.length ≤ 1048576) (hc : 0 < cs.length) (hc2 : cs.length ≤ 1048576) : ∀ (K : Nat) (out : List Int) (i : Nat), out.length + (fs.length - i) ≤ 1048576 → i ≤ 2097152 → fs.length < i + K ∧ 0 < K →
    ∃ r, S.RunCalls_l2 fs cs K out (i : Int) = some r ∧ M.RunCalls_l2 fs cs K out (i : Int) = some r ∧ r.length ≤ 1048576
  | 0, out, i, h1, h2, h3 => by
    omega
  | K + 1, out, i, h1, h2, h3 => by
    rw [S.RunCalls_l2, M.RunCalls_l2]
    by_cases c : i < fs.length
    · rw [if_pos (by simpa using c), if_pos (by simpa using c), idx_nat fs c, Option.bind_some, Option.bind_some, app_eq _ _ (by simp; omega), Option.bind_some, Option.bind_some]
      have e : w64 ((i : Int) + (List.length cs : Int)) = ((i + cs.length : Nat) : Int) := by rw [w64_sm (by omega) (by omega)]; omega
      rw [e]
      exact part_eq fs cs hf hc hc2 K _ (i + cs.length) (by simp; omega) (by omega) (by omega)
    · rw [if_neg (by simpa using c), if_neg (by simpa using c)]
      exact ⟨out, rfl, rfl, by omega⟩
theorem run_loop (cs : List Ca) (fs : List Int) (hc : cs.length ≤ 1048576) (hf : fs.length ≤ 1048576) : ∀ (K i : Nat) (x : Le) (out : List Ca), out.length = i → i ≤ cs.length → x.1.length ≤ 1048576 → cs.length < i + K →
    ∃ r, S.RunCalls_l1 cs fs K x.1 x.2.1 x.2.2 out (i : Int) = some r ∧ M.RunCalls_l1 cs fs K x.1 x.2.1 x.2.2 out (i : Int) = some r ∧ r.1.length ≤ 1048576 ∧ r.2.2.2.length ≤ 1048576
  | 0, i, x, out, h1, h2, h3, h4 => by omega
  | K + 1, i, x, out, h1, h2, h3, h4 => by
    rw [S.RunCalls_l1, M.RunCalls_l1]
    by_cases c : i < cs.length
    · obtain ⟨r, g1, g2, g3⟩ := part_eq fs cs hf (by omega) hc FUEL [] i (by simp; omega) (by omega) ⟨by rw [FUEL_eq]; omega, by rw [FUEL_eq]; omega⟩
      rw [if_pos (by simpa using c), if_pos (by simpa using c), idx_nat cs c, g1, g2]
      simp only [Option.bind_some]
      rw [eta_le, eta_ca, FinishCall_S x _ r h3 g3, FinishCall_M x _ r h3 g3]
      simp only [Option.bind_some]
      rw [app_eq _ _ (by simp; omega), Option.bind_some, Option.bind_some, w64_succ (by omega)]
      exact run_loop cs fs hc hf K (i + 1) (fin x cs[i] r).1 _ (by simp; omega) (by omega) (fin_len x _ r h3) (by omega)
    · rw [if_neg (by simpa using c), if_neg (by simpa using c)]
      exact ⟨_, rfl, rfl, h3, by show out.length ≤ _; omega⟩
theorem sm_flat {l : List Ca} (h : l.length ≤ 1048576) : SZ.sm l := ⟨h, fun _ _ => ⟨trivial, trivial, trivial, trivial⟩⟩
theorem same_RunCalls (x : Le) (cs : List Ca) (fs : List Int) (z1 : SZ.sz x ≤ 1048576) (z2 : SZ.sz cs ≤ 1048576) (z3 : SZ.sz fs ≤ 1048576) (_ : Rng.r x) (_ : Rng.r cs) (_ : Rng.r fs) : ∃ r, S.RunCalls x cs fs = some r ∧ M.RunCalls x cs fs = some r ∧ SZ.sm r := by
  have hl := sm_le.1 (sm_of z1)
  obtain ⟨r, h1, h2, h3, h4⟩ := run_loop cs fs (sm_of z2).1 (sm_of z3).1 FUEL 0 x [] rfl (by omega) hl (by have := (sm_of z2).1; rw [FUEL_eq]; omega)
  unfold S.RunCalls M.RunCalls
  rw [eta_le, copyLedger_S x hl, copyLedger_M x hl, Option.bind_some, Option.bind_some, show (0 : Int) = ((0 : Nat) : Int) from rfl, h1, h2]
  exact ⟨_, rfl, rfl, sm_le.2 h3, sm_flat h4⟩
end Go.Gx.Px
